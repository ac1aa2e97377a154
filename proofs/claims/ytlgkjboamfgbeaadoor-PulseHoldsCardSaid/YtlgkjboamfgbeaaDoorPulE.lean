/- PulseHolds: the plain law: what holds of a pulse, tick by tick. -/
import Derived.Test.YtlgkjboamfgbeaaDoorPulW
namespace Go.Proofs.YtlgkjboamfgbeaaDoor
set_option linter.unusedVariables false
set_option linter.unusedSimpArgs false
open Go.RowKit
set_option maxRecDepth 100000

/-- what holds at the head of a tick -/
def PInv (p j q s t du un : Int) (wt : Bool) (al td ws : Int) : Prop :=
  (t ≤ du ∧ 1 ≤ du ∧ du ≤ al + p + j) ∧ (0 ≤ al ∧ al ≤ t) ∧ (0 ≤ un ∧ un ≤ t + q + s ∧ td + q ≤ un) ∧ (-1000 ≤ td ∧ td ≤ t) ∧ wt = decide (0 ≤ ws) ∧ (-1 ≤ ws ∧ ws ≤ t) ∧ (0 ≤ ws → t ≤ un ∧ un ≤ ws + q + s)
/-- what holds behind the tick, at the same time -/
def PMid (p j q s t du un : Int) (wt : Bool) (al td ws : Int) : Prop :=
  (t < du ∧ du ≤ al + p + j) ∧ (0 ≤ al ∧ al ≤ t) ∧ (0 ≤ un ∧ un ≤ t + q + s ∧ td + q ≤ un) ∧ (-1000 ≤ td ∧ td ≤ t) ∧ wt = decide (0 ≤ ws) ∧ (-1 ≤ ws ∧ ws ≤ t) ∧ (0 ≤ ws → t < un ∧ un ≤ ws + q + s)
theorem PInv.first (p j q s : Int) (hp : 1 ≤ p) (hj : 0 ≤ j) (hq : 0 ≤ q ∧ q ≤ 40) (hs : 0 ≤ s) : PInv p j q s 0 p 0 false 0 (-1000) (-1) :=
  ⟨by omega, by omega, by omega, by omega, rfl, by omega, by omega⟩
theorem PMid.next {p j q s t du un : Int} {wt : Bool} {al td ws : Int} (h : PMid p j q s t du un wt al td ws) : PInv p j q s (t + 1) du un wt al td ws := by
  obtain ⟨h1, h2, h3, h4, h5, h6, h7⟩ := h
  refine ⟨by omega, by omega, by omega, by omega, h5, by omega, fun h => ?_⟩
  have := h7 h
  omega
/-- the tests at a tick's end -/
theorem PMid.ends {p j q s t du un : Int} {wt : Bool} {al td ws : Int} (h : PMid p j q s t du un wt al td ws) :
    decide (p + j < t - al) = false ∧ (decide (0 ≤ ws) = true → decide (q + s < t - ws) = false) ∧ wt = decide (0 ≤ ws) := by
  obtain ⟨h1, h2, h3, h4, h5, h6, h7⟩ := h
  refine ⟨decide_eq_false (by omega), fun h => decide_eq_false ?_, h5⟩
  have := h7 (of_decide_eq_true h)
  omega
theorem tick_mid (p j q s t du un dr : Int) (wt : Bool) (al td ws : Int) (hp : 1 ≤ p) (hj : 0 ≤ j) (hq : 0 ≤ q) (hs : 0 ≤ s) (h : PInv p j q s t du un wt al td ws) :
    ∃ d1 u1 w1 k1 al1 td1 ws1, tckF p j q s du un wt t dr = ((d1, u1, w1), k1) ∧ PMid p j q s t d1 u1 w1 al1 td1 ws1 ∧
      ((k1 = 0 ∧ al1 = al ∧ td1 = td ∧ ws1 = ws) ∨ (k1 = 2 ∧ w1 = false ∧ al1 = t ∧ td1 = td ∧ ws1 = -1) ∨ (k1 = 1 ∧ w1 = false ∧ decide (t - td < q) = false ∧ al1 = al ∧ td1 = t ∧ ws1 = -1)) := by
  obtain ⟨h1, h2, h3, h4, h5, h6, h7⟩ := h
  unfold tckF
  by_cases hd : du ≤ t
  · rw [if_pos hd]
    exact ⟨_, _, _, _, t, td, -1, rfl, ⟨by omega, by omega, by omega, by omega, rfl, by omega, by omega⟩, .inr (.inl ⟨rfl, rfl, rfl, rfl, rfl⟩)⟩
  rw [if_neg hd]
  cases wt
  · have hw : ¬ 0 ≤ ws := by simpa using h5.symm
    exact ⟨_, _, _, _, al, td, ws, rfl, ⟨by omega, by omega, by omega, by omega, h5, by omega, by omega⟩, .inl ⟨rfl, rfl, rfl, rfl⟩⟩
  · have hw : 0 ≤ ws := by simpa using h5.symm
    have h8 := h7 hw
    rw [if_pos rfl]
    unfold chgF
    by_cases hu : un ≤ t
    · rw [if_pos hu]
      exact ⟨_, _, _, _, al, t, -1, rfl, ⟨by omega, by omega, by omega, by omega, rfl, by omega, by omega⟩, .inr (.inr ⟨rfl, rfl, decide_eq_false (by omega), rfl, rfl, rfl⟩)⟩
    · rw [if_neg hu]
      exact ⟨_, _, _, _, al, td, ws, rfl, ⟨by omega, by omega, by omega, by omega, h5, by omega, by omega⟩, .inl ⟨rfl, rfl, rfl, rfl⟩⟩
theorem change_mid (p j q s t du un dr : Int) (wt : Bool) (al td ws : Int) (hq : 0 ≤ q) (hs : 0 ≤ s) (h : PMid p j q s t du un wt al td ws) (ht : 0 ≤ t) :
    ∃ d1 u1 w1 k1 td1 ws1, chgF q s du un wt t dr = ((d1, u1, w1), k1) ∧ PMid p j q s t d1 u1 w1 al td1 ws1 ∧
      ((k1 = 1 ∧ decide (t - td < q) = false ∧ td1 = t ∧ ws1 = -1) ∨ (k1 = 0 ∧ decide (ws < 0) = true ∧ td1 = td ∧ ws1 = t) ∨ (k1 = 0 ∧ decide (ws < 0) = false ∧ td1 = td ∧ ws1 = ws)) := by
  obtain ⟨h1, h2, h3, h4, h5, h6, h7⟩ := h
  unfold chgF
  by_cases hu : un ≤ t
  · rw [if_pos hu]
    exact ⟨_, _, _, _, t, -1, rfl, ⟨by omega, by omega, by omega, by omega, rfl, by omega, by omega⟩, .inl ⟨rfl, decide_eq_false (by omega), rfl, rfl⟩⟩
  · rw [if_neg hu]
    by_cases hw : ws < 0
    · exact ⟨_, _, _, _, td, t, rfl, ⟨by omega, by omega, by omega, by omega, (decide_eq_true ht).symm, by omega, by omega⟩, .inr (.inl ⟨rfl, decide_eq_true hw, rfl, rfl⟩)⟩
    · exact ⟨_, _, _, _, td, ws, rfl, ⟨by omega, by omega, by omega, by omega, (decide_eq_true (by omega)).symm, by omega, by omega⟩, .inr (.inr ⟨rfl, decide_eq_false hw, rfl, rfl⟩)⟩
theorem PMid.fine {p j q s t du un : Int} {wt : Bool} {al td ws : Int} (h : PMid p j q s t du un wt al td ws) (ht : 0 ≤ t ∧ t ≤ 1000) (hp : p ≤ 40) (hj : j ≤ 40) (hq : q ≤ 40) (hs : s ≤ 40) : (okT du && okT un) = true ∧ okN t = true := by
  obtain ⟨h1, h2, h3, h4, h5, h6, h7⟩ := h
  refine ⟨?_, decide_eq_true (by omega)⟩
  rw [Bool.and_eq_true]
  exact ⟨decide_eq_true (by omega), decide_eq_true (by omega)⟩
theorem PInv.fine {p j q s t du un : Int} {wt : Bool} {al td ws : Int} (h : PInv p j q s t du un wt al td ws) (ht : 0 ≤ t ∧ t ≤ 1000) (hp : p ≤ 40) (hj : j ≤ 40) (hq : q ≤ 40) (hs : s ≤ 40) : (okT du && okT un) = true ∧ okN t = true := by
  obtain ⟨h1, h2, h3, h4, h5, h6, h7⟩ := h
  refine ⟨?_, decide_eq_true (by omega)⟩
  rw [Bool.and_eq_true]
  exact ⟨decide_eq_true (by omega), decide_eq_true (by omega)⟩
end Go.Proofs.YtlgkjboamfgbeaaDoor
