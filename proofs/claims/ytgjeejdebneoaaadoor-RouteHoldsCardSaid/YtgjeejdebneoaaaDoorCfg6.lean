/- config: Wait, Quiet, Bound. -/
import Derived.Test.YtgjeejdebneoaaaDoorCfg5
namespace Go.Proofs.YtgjeejdebneoaaaDoor
set_option linter.unusedVariables false
set_option linter.unusedSimpArgs false
open Go.RowKit
set_option maxRecDepth 100000

theorem okC_bounds {p j t h g q s cp : Int} {l : List (Nat × Int)} (ho : okC p j t h g q s cp l = true) : (1 ≤ p ∧ p ≤ 1000000) ∧ (0 ≤ j ∧ j ≤ 1000000) ∧ (1 ≤ t ∧ t ≤ 1000000) ∧ (0 ≤ h ∧ h ≤ 1000000) ∧ (1 ≤ g ∧ g ≤ 1000000) ∧ (0 ≤ q ∧ q ≤ 1000000) ∧ (0 ≤ s ∧ s ≤ 1000000) := by
  simp only [okC, okOwn, Bool.and_eq_true, decide_eq_true_eq, List.all_eq_true, List.mem_range] at ho
  have h1 := ho.1.1.1
  exact ⟨of_decide_eq_true (h1 0 (by omega)), of_decide_eq_true (h1 1 (by omega)), of_decide_eq_true (h1 2 (by omega)), of_decide_eq_true (h1 3 (by omega)), of_decide_eq_true (h1 4 (by omega)), of_decide_eq_true (h1 5 (by omega)), of_decide_eq_true (h1 6 (by omega))⟩
theorem far1 {w : World} {a b i : Nat} {v x : Value} (h : w.cell? ⟨a, i, none⟩ = some v) (hb : b ≠ a) : (w.setCell ⟨b, 0, none⟩ x).cell? ⟨a, i, none⟩ = some v :=
  (World.cell?_setCell_far w ⟨b, 0, none⟩ ⟨a, i, none⟩ x hb).trans h
theorem far2 {w : World} {a b c i : Nat} {v x y : Value} (h : w.cell? ⟨a, i, none⟩ = some v) (hb : b ≠ a) (hc : c ≠ a) : ((w.setCell ⟨b, 0, none⟩ x).setCell ⟨c, 0, none⟩ y).cell? ⟨a, i, none⟩ = some v :=
  (World.cell?_setCell_far _ ⟨c, 0, none⟩ ⟨a, i, none⟩ y hc).trans ((World.cell?_setCell_far w ⟨b, 0, none⟩ ⟨a, i, none⟩ x hb).trans h)
/-- a wait of a configuration -/
def waitC (ok : Bool) (a d b : Int) : Int := if ok then a + max 0 (min d b) else 0

end Go.Proofs.YtgjeejdebneoaaaDoor
