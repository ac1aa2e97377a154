/- addr.Kind and the reference's: what each answers. -/
import Derived.Test.YtpadlillbofpnaaDoorRows
import Derived.Test.YtpadlillbofpnaaDoorBase2
import Derived.Laws.EntriesVeiled
namespace Go.Proofs.YtpadlillbofpnaaDoor
set_option linter.unusedVariables false
set_option linter.unusedSimpArgs false
open Go.RowKit
set_option maxRecDepth 100000

/-- the kind of an address, by its highest byte -/
def kindF (a : Nat) : Nat :=
  if a = 0 then 1 else if a / 16777216 = 0 then 2 else if a / 16777216 = 127 then 3 else if 224 ≤ a / 16777216 ∧ a / 16777216 ≤ 239 then 4 else if 240 ≤ a / 16777216 then 5 else 6

/-- what one rule says -/
def ruleB (k a : Nat) : Bool := match k with
  | 0 => decide (a = 0) | 1 => decide (a / 16777216 = 0) | 2 => decide (a / 16777216 = 127) | 3 => decide (224 ≤ a / 16777216 ∧ a / 16777216 ≤ 239) | 4 => decide (240 ≤ a / 16777216) | _ => true

/-- the first rule from k on that is so -/
def fromR : Nat → Nat → Nat → Nat
  | 0, _, _ => 0
  | f + 1, k, a => if ruleB k a then k + 1 else fromR f (k + 1) a
theorem fromR_kind (a : Nat) : fromR 6 0 a = kindF a := by
  unfold kindF
  simp only [fromR, ruleB]
  simp only [decide_eq_true_eq]
  rfl

end Go.Proofs.YtpadlillbofpnaaDoor
