/- '==' and '!=' of two prefixes, and of two entries. -/
import Derived.Test.YtgjeejdebneoaaaDoorRows
import Derived.Test.YtgjeejdebneoaaaDoorBase2
namespace Go.Proofs.YtgjeejdebneoaaaDoor
set_option linter.unusedVariables false
set_option linter.unusedSimpArgs false
open Go.RowKit

theorem eq_pfx (a b n m : Int) (w : World) : (binOp .eql 28 (.agg #[.int .u32 a, .int .i64 n]) (.agg #[.int .u32 b, .int .i64 m])).run Tryd.prog w = .ok (.bool (a == b && n == m)) w := by
  have h1 : Tryd.prog.underlying 28 = some (.struct (Tryd.prog.fieldsOf 28)) := by simp [Program.fieldsOf, Tryd.underlying28]
  have h2 := run_equalIn_struct (P := Tryd.prog) w 9999 28 #[.int .u32 a, .int .i64 n] #[.int .u32 b, .int .i64 m] h1 (by kernel_rfl)
  simp only [binOp]
  simp only [Op.equal, Op.maxDepth, Sem.run_bind, h2]
  by_cases ha : a = b <;> by_cases hn : n = m <;> simp [go_sem, ha, hn]
theorem ne_ent (f t a m x k f' t' a' m' x' k' : Int) (w : World) : (binOp .neq 98 (.agg #[.int .i64 f, .int .i64 t, .int .u32 a, .int .u32 m, .int .u32 x, .int .u32 k]) (.agg #[.int .i64 f', .int .i64 t', .int .u32 a', .int .u32 m', .int .u32 x', .int .u32 k'])).run Tryd.prog w =
    .ok (.bool (!(f == f' && t == t' && a == a' && m == m' && x == x' && k == k'))) w := by
  have h1 : Tryd.prog.underlying 98 = some (.struct (Tryd.prog.fieldsOf 98)) := by simp [Program.fieldsOf, Tryd.underlying98]
  have h2 := run_equalIn_struct (P := Tryd.prog) w 9999 98 #[.int .i64 f, .int .i64 t, .int .u32 a, .int .u32 m, .int .u32 x, .int .u32 k] #[.int .i64 f', .int .i64 t', .int .u32 a', .int .u32 m', .int .u32 x', .int .u32 k'] h1 (by kernel_rfl)
  simp only [binOp]
  simp only [Op.equal, Op.maxDepth, Sem.run_bind, h2]
  by_cases e1 : f = f' <;> simp [go_sem, e1]
  by_cases e2 : t = t' <;> simp [go_sem, e2]
  by_cases e3 : a = a' <;> simp [go_sem, e3]
  by_cases e4 : m = m' <;> simp [go_sem, e4]
  by_cases e5 : x = x' <;> simp [go_sem, e5]
  by_cases e6 : k = k' <;> simp [go_sem, e6]
theorem eq_ent (f t a m x k f' t' a' m' x' k' : Int) (w : World) : (binOp .eql 98 (.agg #[.int .i64 f, .int .i64 t, .int .u32 a, .int .u32 m, .int .u32 x, .int .u32 k]) (.agg #[.int .i64 f', .int .i64 t', .int .u32 a', .int .u32 m', .int .u32 x', .int .u32 k'])).run Tryd.prog w =
    .ok (.bool (f == f' && t == t' && a == a' && m == m' && x == x' && k == k')) w := by
  have h1 : Tryd.prog.underlying 98 = some (.struct (Tryd.prog.fieldsOf 98)) := by simp [Program.fieldsOf, Tryd.underlying98]
  have h2 := run_equalIn_struct (P := Tryd.prog) w 9999 98 #[.int .i64 f, .int .i64 t, .int .u32 a, .int .u32 m, .int .u32 x, .int .u32 k] #[.int .i64 f', .int .i64 t', .int .u32 a', .int .u32 m', .int .u32 x', .int .u32 k'] h1 (by kernel_rfl)
  simp only [binOp]
  simp only [Op.equal, Op.maxDepth, Sem.run_bind, h2]
  by_cases e1 : f = f' <;> simp [go_sem, e1]
  by_cases e2 : t = t' <;> simp [go_sem, e2]
  by_cases e3 : a = a' <;> simp [go_sem, e3]
  by_cases e4 : m = m' <;> simp [go_sem, e4]
  by_cases e5 : x = x' <;> simp [go_sem, e5]
  by_cases e6 : k = k' <;> simp [go_sem, e6]
end Go.Proofs.YtgjeejdebneoaaaDoor
