/- prefix: masks, lengths, which prefixes may be; the references beside. -/
import Derived.Test.YtpadlillbofpnaaDoorAddr
import Derived.Test.YtpadlillbofpnaaDoorShelf
namespace Go.Proofs.YtpadlillbofpnaaDoor
set_option linter.unusedVariables false
set_option linter.unusedSimpArgs false
open Go.RowKit
set_option maxRecDepth 100000

/-- the mask of a length -/
def maskF (k : Nat) : Nat := 4294967296 - 2 ^ (32 - k)
theorem maskF_all : ∀ k : Fin 33, 4294967295 * 2 ^ (32 - k.val) % 4294967296 = maskF k.val := by decide +kernel
theorem maskF_eq (k : Nat) (hk : k ≤ 32) : (4294967295 * 2 ^ (32 - k) % 4294967296 : Int) = (maskF k : Int) := by
  have := maskF_all ⟨k, by omega⟩
  rw [← this]
  simp
theorem maskF_lt (k : Nat) : maskF k < 4294967296 := by
  unfold maskF
  have : 0 < 2 ^ (32 - k) := Nat.two_pow_pos _
  omega

/-- the length of a mask, or that it is none -/
def lenL (m : Nat) : Nat := 32 - Lib.bitLen (4294967295 - m)
def lenF (m : Nat) : Nat × Int := if maskF (lenL m) = m then (lenL m, 0) else (0, 120)
theorem lenL_mask : ∀ k : Fin 33, lenL (maskF k.val) = k.val := by decide +kernel
theorem bitLenAux_le (f : Nat) : ∀ x, Lib.bitLenAux f x ≤ f := by
  induction f with
  | zero => intro x; simp [Lib.bitLenAux]
  | succ f ih =>
    intro x
    unfold Lib.bitLenAux
    split
    · omega
    · have := ih (x / 2); omega
theorem bitLen_le32 (x : Nat) (h : x < 4294967296) : Lib.bitLen x ≤ 32 := by
  unfold Lib.bitLen
  rw [Lib.bitLenAux_fuel 32 x (by simpa using h) 64 (by omega)]
  exact bitLenAux_le 32 x
theorem lenL_le (m : Nat) : lenL m ≤ 32 := by unfold lenL; omega

theorem not_u32 (m : Nat) (hm : m < 4294967296) : bits .xor .u32 IntKind.u32.max (m : Int) = 4294967295 - (m : Int) := by
  show IntKind.u32.wrap ((BitVec.ofInt 32 4294967295 ^^^ BitVec.ofInt 32 (m : Int)).toNat : Int) = _
  have h1 : BitVec.ofInt 32 4294967295 = BitVec.allOnes 32 := by decide
  rw [h1, BitVec.allOnes_xor, BitVec.toNat_not, ofInt_u32 m hm, IntKind.wrap_u32']
  omega
/-- may a prefix be? -/
def okP (p : Nat × Int) : Bool := decide (0 ≤ p.2 ∧ p.2 ≤ 32 ∧ p.1 % 2 ^ (32 - p.2.toNat) = 0)
/-- a prefix as cells -/
def pfxC (p : Nat × Int) : List Value := [.int .u32 p.1, .int .i64 p.2]
theorem flat2 (ps : List (Nat × Int)) (k : Nat) (h : k < ps.length) : (ps.flatMap pfxC)[k * 2]? = some (.int .u32 ps[k].1) ∧ (ps.flatMap pfxC)[k * 2 + 1]? = some (.int .i64 ps[k].2) := by
  induction ps generalizing k with
  | nil => simp at h
  | cons p ps ih =>
    cases k with
    | zero => simp [pfxC]
    | succ k =>
      have := ih k (by simpa using h)
      simp only [List.flatMap_cons, pfxC, List.cons_append, List.nil_append, Nat.succ_mul, List.getElem_cons_succ]
      exact this
theorem andNot_mask (a k : Nat) (ha : a < 4294967296) (hk : k ≤ 32) : bits .andNot .u32 (a : Int) (maskF k : Int) = ((a % 2 ^ (32 - k) : Nat) : Int) := by
  rw [u32_andNot_nat a (maskF k) ha (maskF_lt k)]
  congr 1
  have h1 : 2 ^ (32 - k) ≤ 2 ^ 32 := Nat.pow_le_pow_right (by omega) (by omega)
  have h2 : 0 < 2 ^ (32 - k) := Nat.two_pow_pos _
  have : 4294967295 - maskF k = 2 ^ (32 - k) - 1 := by unfold maskF; omega
  rw [this, Nat.and_two_pow_sub_one_eq_mod]

/-- a prefix as a value -/
def pfxV (p : Nat × Int) : Value := .agg #[.int .u32 p.1, .int .i64 p.2]

theorem Rd.newL (w : World) (t : TypeId) (cs : Array Value) (ys : List Value) (h : cs = ys.toArray) : Rd (w.alloc (.cells cs t)) (w.heap.size + 1) (some ⟨w.heap.size, 0, none⟩) ys := by subst h; exact Rd.new w t ys

end Go.Proofs.YtpadlillbofpnaaDoor
