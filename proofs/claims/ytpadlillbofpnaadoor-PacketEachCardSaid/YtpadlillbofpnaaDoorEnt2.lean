/- entry: Of, Prefix, All, Name, and the references. -/
import Derived.Test.YtpadlillbofpnaaDoorEntB
namespace Go.Proofs.YtpadlillbofpnaaDoor
set_option linter.unusedVariables false
set_option linter.unusedSimpArgs false
open Go.RowKit
set_option maxRecDepth 100000

theorem whyF_zero (f : Int) (a m x k : Nat) : whyF f a m x k = 0 ↔ (f = 2 ∧ (lenF m).2 = 0 ∧ bits .andNot .u32 (a : Int) (m : Int) = 0 ∧ kindBad a m = false ∧ x = 0 ∧ 1 ≤ k ∧ k ≤ 16) := by
  unfold whyF
  simp only [fromE, ruleE]
  repeat' split
  all_goals simp_all
  all_goals omega

/-- the prefix of an entry, and the error -/
def prefF (f : Int) (a m x k : Nat) : (Nat × Nat) × Int := if whyF f a m x k = 0 then ((a, (lenF m).1), 0) else ((0, 0), 140)

end Go.Proofs.YtpadlillbofpnaaDoor
