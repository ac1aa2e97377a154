/- entry: why an entry is left out; the entry of a prefix; the prefix of an entry; the references beside. -/
import Derived.Test.YtpadlillbofpnaaDoorPfxR
namespace Go.Proofs.YtpadlillbofpnaaDoor
set_option linter.unusedVariables false
set_option linter.unusedSimpArgs false
open Go.RowKit
set_option maxRecDepth 100000
theorem ret_bool {a b : Bool} (h : a = b) : Ending.returned (.bool a) = .returned (.bool b) := by rw [h]
theorem ret_int {k : IntKind} {a b : Int} (h : a = b) : Ending.returned (.int k a) = .returned (.int k b) := by rw [h]

/-- is an address of a mask one that is left out? -/
def kindBad (a m : Nat) : Bool := (decide (2 ≤ kindF a) && decide (kindF a ≤ 5)) || (decide (kindF a = 1) && decide (m ≠ 0))
theorem kindF_range (a : Nat) : 1 ≤ kindF a ∧ kindF a ≤ 6 := by
  unfold kindF; repeat' split
  all_goals omega

/-- what one rule says of an entry -/
def ruleE (j : Nat) (f : Int) (a m x k : Nat) : Bool := match j with
  | 0 => decide (f ≠ 2) | 1 => decide ((lenF m).2 ≠ 0) | 2 => decide (bits .andNot .u32 (a : Int) (m : Int) ≠ 0) | 3 => kindBad a m | 4 => decide (x ≠ 0) | _ => decide (k < 1 ∨ 16 < k)
def fromE : Nat → Nat → Int → Nat → Nat → Nat → Nat → Nat
  | 0, _, _, _, _, _, _ => 0
  | n + 1, j, f, a, m, x, k => if ruleE j f a m x k then j + 1 else fromE n (j + 1) f a m x k
/-- why an entry is left out -/
def whyF (f : Int) (a m x k : Nat) : Nat := fromE 6 0 f a m x k

end Go.Proofs.YtpadlillbofpnaaDoor
