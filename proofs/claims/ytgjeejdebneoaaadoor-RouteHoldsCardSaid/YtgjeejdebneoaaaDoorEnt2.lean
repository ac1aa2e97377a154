/- entry: Of, Prefix, All, Name, and the references. -/
import Derived.Test.YtgjeejdebneoaaaDoorEntB
namespace Go.Proofs.YtgjeejdebneoaaaDoor
set_option linter.unusedVariables false
set_option linter.unusedSimpArgs false
open Go.RowKit
set_option maxRecDepth 100000

theorem whyF_zero (f : Int) (a m x k : Nat) : whyF f a m x k = 0 ↔ (f = 2 ∧ (lenF m).2 = 0 ∧ bits .andNot .u32 (a : Int) (m : Int) = 0 ∧ kindBad a m = false ∧ x = 0 ∧ 1 ≤ k ∧ k ≤ 16) := by
  unfold whyF
  simp only [fromE, ruleE]
  repeat' split
  all_goals simp_all
  all_goals omega

/-- the prefix of an entry, and the error -/
def prefF (f : Int) (a m x k : Nat) : (Nat × Nat) × Int := if whyF f a m x k = 0 then ((a, (lenF m).1), 0) else ((0, 0), 140)

set_option maxHeartbeats 1000000 in
/-- the reference's kind -/
theorem refKind_any (a : Nat) (w : World) (ha : a < 4294967296) :
    Calls Tryd.prog 67 #[.int .u32 a] w fun e w' => e = .returned (.int .i64 (kindF a)) ∧ Below w.heap.size w w' := by
  have hK : kindF a = if a = 0 then 1 else if a / 16777216 = 0 then 2 else if a / 16777216 = 127 then 3 else if 224 ≤ a / 16777216 ∧ a / 16777216 ≤ 239 then 4 else if 240 ≤ a / 16777216 then 5 else 6 := rfl
  by_cases h1 : a = 0
  · rw [if_pos h1] at hK
    rw [hK]
    subst h1
    clear hK
    go_enter Tryd.func67, Tryd.ntmps67
    go_wp2
    go_ret
    exact ⟨rfl, by go_grown⟩
  have g1 : ((a : Int) == 0) = false := by simp; omega
  rw [if_neg h1] at hK
  by_cases h2 : a / 16777216 = 0
  · rw [if_pos h2] at hK
    rw [hK]
    have g2 : (((a : Int) / 16777216) == 0) = true := by simp; omega
    clear hK h2 h1
    go_enter Tryd.func67, Tryd.ntmps67
    go_wp2
    go_ret
    exact ⟨rfl, by go_grown⟩
  have g2 : (((a : Int) / 16777216) == 0) = false := by simp; omega
  rw [if_neg h2] at hK
  by_cases h3 : a / 16777216 = 127
  · rw [if_pos h3] at hK
    rw [hK]
    have g3 : (((a : Int) / 16777216) == 127) = true := by simp; omega
    clear hK h3 h2 h1
    go_enter Tryd.func67, Tryd.ntmps67
    go_wp2
    go_ret
    exact ⟨rfl, by go_grown⟩
  have g3 : (((a : Int) / 16777216) == 127) = false := by simp; omega
  rw [if_neg h3] at hK
  by_cases h4 : 224 ≤ a / 16777216 ∧ a / 16777216 ≤ 239
  · rw [if_pos h4] at hK
    rw [hK]
    have g4 : 224 ≤ (a : Int) / 16777216 := by omega
    have g5 : (a : Int) / 16777216 ≤ 239 := by omega
    clear hK h4 h3 h2 h1
    go_enter Tryd.func67, Tryd.ntmps67
    go_wp2
    go_ret
    exact ⟨rfl, by go_grown⟩
  rw [if_neg h4] at hK
  by_cases h5 : 240 ≤ a / 16777216
  · rw [if_pos h5] at hK
    rw [hK]
    have g4 : 224 ≤ (a : Int) / 16777216 := by omega
    have g5 : ¬ (a : Int) / 16777216 ≤ 239 := by omega
    have g6 : 240 ≤ (a : Int) / 16777216 := by omega
    clear hK h5 h4 h3 h2 h1
    go_enter Tryd.func67, Tryd.ntmps67
    go_wp2
    go_ret
    exact ⟨rfl, by go_grown⟩
  · rw [if_neg h5] at hK
    rw [hK]
    have g4 : ¬ 224 ≤ (a : Int) / 16777216 := by omega
    have g6 : ¬ 240 ≤ (a : Int) / 16777216 := by omega
    clear hK h5 h4 h3 h2 h1
    go_enter Tryd.func67, Tryd.ntmps67
    go_wp2
    go_ret
    exact ⟨rfl, by go_grown⟩

set_option maxHeartbeats 1000000 in
theorem refBad_any (a m : Nat) (w : World) (ha : a < 4294967296) (hm : m < 4294967296) :
    Calls Tryd.prog 45 #[.int .u32 a, .int .u32 m] w fun e w' => e = .returned (.bool (kindBad a m)) ∧ Below w.heap.size w w' := by
  have hkr := kindF_range a
  unfold kindBad
  have hc := fun W => refKind_any a W ha
  generalize kindF a = q at *
  have HC := Lib.hid hc
  clear hc
  rcases (by omega : q = 1 ∨ q = 2 ∨ q = 3 ∨ q = 4 ∨ q = 5 ∨ q = 6) with rfl | rfl | rfl | rfl | rfl | rfl
  all_goals
    go_enter Tryd.func45, Tryd.ntmps45
    go_wp2_with fail
    refine (HC.out _).mono ?_
    rintro e w1 ⟨rfl, hb⟩
    go_wp2_with fail
    go_ret
    exact ⟨ret_bool (by first | rfl | (rw [Bool.eq_iff_iff]; simp)), hb⟩
end Go.Proofs.YtgjeejdebneoaaaDoor
