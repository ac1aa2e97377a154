/- The references of prefix: what each answers. -/
import Derived.Test.YtpadlillbofpnaaDoorPfx
namespace Go.Proofs.YtpadlillbofpnaaDoor
set_option linter.unusedVariables false
set_option linter.unusedSimpArgs false
open Go.RowKit
set_option maxRecDepth 100000

/-- a bit of an address -/
def bitF (a i : Nat) : Nat := a / 2 ^ (31 - i) % 2
theorem right_plain (a n : Nat) (hn : n ≤ 32) (ha : a < 4294967296) : (∀ i, n ≤ i → i < 32 → a / 2 ^ (31 - i) % 2 = 0) ↔ a % 2 ^ (32 - n) = 0 := by
  constructor
  · intro h
    have key : ∀ j, j ≤ 32 - n → a % 2 ^ j = 0 := by
      intro j
      induction j with
      | zero => intro _; simp [Nat.mod_one]
      | succ j ih =>
        intro hj
        have h1 := ih (by omega)
        have h2 := h (31 - j) (by omega) (by omega)
        rw [show 31 - (31 - j) = j by omega] at h2
        rw [Nat.pow_succ, Nat.mod_mul, h1, h2]; simp
    exact key _ (Nat.le_refl _)
  · intro h i h1 h2
    obtain ⟨q, hq⟩ := Nat.dvd_of_mod_eq_zero h
    have : 2 ^ (32 - n) = 2 ^ (31 - i) * 2 * 2 ^ (i - n) := by
      rw [← Nat.pow_succ, ← Nat.pow_add]
      congr 1
      omega
    rw [hq, this, Nat.mul_assoc, Nat.mul_assoc, Nat.mul_div_cancel_left _ (Nat.two_pow_pos _)]
    omega

/-- the reference's mask, round by round -/
def maskTo (k i : Nat) : Nat := if i ≤ k then 2 ^ i - 1 else (2 ^ k - 1) * 2 ^ (i - k)
theorem maskTo_succ (k i : Nat) (hk : k ≤ 32) (hi : i < 32) : maskTo k (i + 1) = 2 * maskTo k i + (if i < k then 1 else 0) := by
  unfold maskTo
  by_cases h : i < k
  · rw [if_pos (by omega), if_pos (by omega), if_pos h, Nat.pow_succ]
    have : 0 < 2 ^ i := Nat.two_pow_pos _
    omega
  · rw [if_neg (by omega), if_neg h]
    by_cases h2 : i = k
    · subst h2
      rw [if_pos (Nat.le_refl _), show i + 1 - i = 1 by omega]; omega
    · rw [if_neg (by omega), show i + 1 - k = (i - k) + 1 by omega, Nat.pow_succ]
      rw [← Nat.mul_assoc]; omega
theorem maskTo_32 (k : Nat) (hk : k ≤ 32) : maskTo k 32 = maskF k := by
  have : ∀ k : Fin 33, maskTo k.val 32 = maskF k.val := by decide +kernel
  exact this ⟨k, by omega⟩
theorem maskTo_lt : ∀ (k : Fin 33) (i : Fin 33), maskTo k.val i.val < 2 ^ i.val := by decide +kernel

end Go.Proofs.YtpadlillbofpnaaDoor
