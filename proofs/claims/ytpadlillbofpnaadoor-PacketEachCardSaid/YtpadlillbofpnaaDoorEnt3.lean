/- entry: Of, All, Name, and the references. -/
import Derived.Test.YtpadlillbofpnaaDoorEnt2
namespace Go.Proofs.YtpadlillbofpnaaDoor
set_option linter.unusedVariables false
set_option linter.unusedSimpArgs false
open Go.RowKit
set_option maxRecDepth 100000

theorem whyF_eq (f : Int) (a m x k : Nat) : whyF f a m x k = if f ≠ 2 then 1 else if (lenF m).2 ≠ 0 then 2 else if bits .andNot .u32 (a : Int) (m : Int) ≠ 0 then 3 else if kindBad a m = true then 4 else if x ≠ 0 then 5 else if k < 1 ∨ 16 < k then 6 else 0 := by
  simp only [whyF, fromE, ruleE, decide_eq_true_eq]
theorem lenF_ok (m : Nat) (h : (lenF m).2 = 0) : m = maskF (lenF m).1 ∧ (lenF m).1 ≤ 32 := by
  unfold lenF at h ⊢
  by_cases h1 : maskF (lenL m) = m
  · rw [if_pos h1]; exact ⟨h1.symm, lenL_le m⟩
  · rw [if_neg h1] at h; simp at h
theorem okP_bits (a m : Nat) (ha : a < 4294967296) (h : (lenF m).2 = 0) : okP (a, ((lenF m).1 : Int)) = decide (bits .andNot .u32 (a : Int) (m : Int) = 0) := by
  obtain ⟨h1, h2⟩ := lenF_ok m h
  generalize (lenF m).1 = n at *
  subst h1
  rw [andNot_mask a n ha h2]
  simp only [okP, Int.toNat_natCast]
  rw [decide_eq_decide]
  constructor
  · rintro ⟨_, _, h⟩; rw [h]; rfl
  · intro h; exact ⟨by omega, by omega, Int.natCast_eq_zero.1 h⟩

/-- may the entry of a prefix be told? -/
def okOf (a : Nat) (n me : Int) : Bool := okP (a, n) && decide (1 ≤ me ∧ me ≤ 16) && !kindBad a (maskF n.toNat)
/-- the entry of a prefix, as a value, and the error -/
def ofV (a : Nat) (n me : Int) : Value := if okOf a n me then .tuple #[.agg #[.int .i64 2, .int .i64 0, .int .u32 a, .int .u32 (maskF n.toNat), .int .u32 0, .int .u32 me], .int .i64 0] else .tuple #[.agg #[.int .i64 0, .int .i64 0, .int .u32 0, .int .u32 0, .int .u32 0, .int .u32 0], .int .i64 2]
theorem lenF_mask (n : Nat) (hn : n ≤ 32) : lenF (maskF n) = (n, 0) := by
  have := lenL_mask ⟨n, by omega⟩
  simp only at this
  unfold lenF
  rw [this, if_pos rfl]
theorem whyF_of (a n me : Nat) (ha : a < 4294967296) (hn : n ≤ 32) (hz : a % 2 ^ (32 - n) = 0) (h1 : 1 ≤ me) (h2 : me ≤ 16) : whyF 2 a (maskF n) 0 me = if kindBad a (maskF n) then 4 else 0 := by
  rw [whyF_eq, if_neg (by simp), lenF_mask n hn, if_neg (by simp), andNot_mask a n ha hn, hz, if_neg (by simp)]
  cases kindBad a (maskF n) <;> simp
  omega

end Go.Proofs.YtpadlillbofpnaaDoor
