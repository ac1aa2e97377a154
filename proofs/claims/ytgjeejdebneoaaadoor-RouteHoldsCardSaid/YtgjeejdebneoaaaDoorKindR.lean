/- addr: the reference's kind. -/
import Derived.Test.YtgjeejdebneoaaaDoorAddr
namespace Go.Proofs.YtgjeejdebneoaaaDoor
set_option linter.unusedVariables false
set_option linter.unusedSimpArgs false
open Go.RowKit
set_option maxRecDepth 100000
set_option maxHeartbeats 1000000 in
/-- the reference's kind -/
theorem refKindA_any (a : Nat) (w : World) (ha : a < 4294967296) :
    Calls Tryd.prog 67 #[.int .u32 a] w fun e w' => e = .returned (.int .i64 (kindF a)) ∧ Below w.heap.size w w' := by
  have hK : kindF a = if a = 0 then 1 else if a / 16777216 = 0 then 2 else if a / 16777216 = 127 then 3 else if 224 ≤ a / 16777216 ∧ a / 16777216 ≤ 239 then 4 else if 240 ≤ a / 16777216 then 5 else 6 := rfl
  by_cases h1 : a = 0
  · rw [if_pos h1] at hK
    rw [hK]
    subst h1
    clear hK
    go_enter Tryd.func67, Tryd.ntmps67
    go_wp2
    go_ret
    exact ⟨rfl, by go_grown⟩
  have g1 : ((a : Int) == 0) = false := by simp; omega
  rw [if_neg h1] at hK
  by_cases h2 : a / 16777216 = 0
  · rw [if_pos h2] at hK
    rw [hK]
    have g2 : (((a : Int) / 16777216) == 0) = true := by simp; omega
    clear hK h2 h1
    go_enter Tryd.func67, Tryd.ntmps67
    go_wp2
    go_ret
    exact ⟨rfl, by go_grown⟩
  have g2 : (((a : Int) / 16777216) == 0) = false := by simp; omega
  rw [if_neg h2] at hK
  by_cases h3 : a / 16777216 = 127
  · rw [if_pos h3] at hK
    rw [hK]
    have g3 : (((a : Int) / 16777216) == 127) = true := by simp; omega
    clear hK h3 h2 h1
    go_enter Tryd.func67, Tryd.ntmps67
    go_wp2
    go_ret
    exact ⟨rfl, by go_grown⟩
  have g3 : (((a : Int) / 16777216) == 127) = false := by simp; omega
  rw [if_neg h3] at hK
  by_cases h4 : 224 ≤ a / 16777216 ∧ a / 16777216 ≤ 239
  · rw [if_pos h4] at hK
    rw [hK]
    have g4 : 224 ≤ (a : Int) / 16777216 := by omega
    have g5 : (a : Int) / 16777216 ≤ 239 := by omega
    clear hK h4 h3 h2 h1
    go_enter Tryd.func67, Tryd.ntmps67
    go_wp2
    go_ret
    exact ⟨rfl, by go_grown⟩
  rw [if_neg h4] at hK
  by_cases h5 : 240 ≤ a / 16777216
  · rw [if_pos h5] at hK
    rw [hK]
    have g4 : 224 ≤ (a : Int) / 16777216 := by omega
    have g5 : ¬ (a : Int) / 16777216 ≤ 239 := by omega
    have g6 : 240 ≤ (a : Int) / 16777216 := by omega
    clear hK h5 h4 h3 h2 h1
    go_enter Tryd.func67, Tryd.ntmps67
    go_wp2
    go_ret
    exact ⟨rfl, by go_grown⟩
  · rw [if_neg h5] at hK
    rw [hK]
    have g4 : ¬ 224 ≤ (a : Int) / 16777216 := by omega
    have g6 : ¬ 240 ≤ (a : Int) / 16777216 := by omega
    clear hK h5 h4 h3 h2 h1
    go_enter Tryd.func67, Tryd.ntmps67
    go_wp2
    go_ret
    exact ⟨rfl, by go_grown⟩
end Go.Proofs.YtgjeejdebneoaaaDoor
