/- The readers of octet: each method's contract. -/
import Derived.Test.YtgjeejdebneoaaaDoorOct
namespace Go.Proofs.YtgjeejdebneoaaaDoor
set_option linter.unusedVariables false
set_option linter.unusedSimpArgs false
open Go.RowKit

theorem u8_info : (Tryd.prog.info? 5).map (fun i => (i.zero, i.size, i.bytes)) = some (some (.int .u8 0), 1, 1) := by kernel_rfl

/-- a slice of bytes is handed back in memory of the call's own -/
def GivesS (l : List UInt8) (w : World) (e : Ending) (w' : World) : Prop :=
  ∃ A c, e = .returned (.slice A l.length c) ∧ l.length ≤ c ∧ c ≤ maxLen ∧ Rd w' w'.heap.size A (l.map b8) ∧ Below w.heap.size w w' ∧ (∀ a, A = some a → w.heap.size ≤ a.block)

/-- what is owned reads as a list, and lies in memory of the call's own -/
theorem own_gives {w w1 : World} {e : TypeId} {v : Value} {l : List UInt8} {n : Nat} (hn : l.length = n) (h : w1.ownsRow w.heap.size e 1 v n (l.map b8)) (hb : Below w.heap.size w w1) : GivesS l w (.returned v) w1 := by
  subst hn
  rcases h.2 with ⟨rfl, h0⟩ | ⟨g, cap, cur, rfl, hg, _, hc, hm, _⟩
  · obtain rfl : l = [] := List.eq_nil_of_length_eq_zero (by omega)
    exact ⟨none, 0, rfl, by simp, by simp [maxLen], Rd.nil, hb, by simp⟩
  · exact ⟨_, _, rfl, hc, hm, Rd.of_own h, hb, by simp; exact hg⟩

theorem rdF_cases (l : List UInt8) (p : Nat) (k : Int) : (rdF l p k).2 = 0 ∨ ((rdF l p k).2 ≠ 0 ∧ (rdF l p k).1 = 0) := by
  unfold rdF; split <;> (try split) <;> (try split) <;> simp
theorem rdF_ok (l : List UInt8) (p : Nat) (k : Int) (h : (rdF l p k).2 = 0) : isW k = true ∧ 0 ≤ k ∧ p + k.toNat ≤ l.length := by
  unfold rdF at h
  by_cases h1 : isW k = false
  · simp [h1] at h
  · have h2 : isW k = true := by simpa using h1
    have h3 := isW_cases h2
    have h4 : ¬ (p : Int) < 0 := by omega
    rw [if_neg h1, if_neg h4] at h
    by_cases h5 : (l.length : Int) - k < p
    · rw [if_pos h5] at h; simp at h
    · exact ⟨h2, by omega, by omega⟩

/-- where a reader stands behind Take -/
def tookP (l : List UInt8) (p : Nat) (k : Int) : Nat := if (rdF l p k).2 = 0 then p + k.toNat else p

/-- what Skip answers, and where the reader stands then -/
def skF (l : List UInt8) (p : Nat) (k : Int) : Nat × Int := if k < 0 then (p, 4) else if (l.length : Int) - p < k then (p, 130) else (p + k.toNat, 0)

/-- where a part of a row begins -/
def cutA (A : Option Addr) (p m : Nat) : Option Addr := if m = 0 then A else A.map (fun x => x.add p)
end Go.Proofs.YtgjeejdebneoaaaDoor
