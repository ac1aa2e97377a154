/- An entry, and a prefix, that come in by value. -/
import Derived.Test.YtlanfceilajifaaGreatDoorRows
import Derived.Test.YtlanfceilajifaaGreatDoorMA
import Derived.Lib.SmallJoins
import Derived.ProofKit
import Derived.OpenShut
namespace Go.Proofs.YtlanfceilajifaaGreatDoor
set_option linter.unusedVariables false
set_option linter.unusedSimpArgs false
open Go.RowKit Go.ChangeShapes Go.WideShapes Go.Joins Go.Deep
set_option maxRecDepth 100000

section
variable {H : Type} {enc : TypeId × Value → H} {w : World} {base : Nat} {spare : Nat → Bool} {held : Bool} {r : Reach} {b0 : Nat} {v : Value} {d : DataW H} {p : List MemPlace}

theorem one_int {fuel : Nat} {t : TypeId} {k : IntKind} {c : Value} {y : DataW H × List MemPlace} (ht : Tryz.prog.underlying t = some (.int k)) (h : DataW.trod enc Tryz.prog w base spare held fuel t [c] = some y) : ∃ n : Int, c = .int k n ∧ (Lit.int k n).wf = true := by
  obtain ⟨n, e, _, hw⟩ := DataW.trod_int ht h
  simp at e
  exact ⟨n, e, hw⟩

theorem open_pfx (hv : Value.okWide Tryz.prog w r b0 86 v) (h : DataW.Trod enc Tryz.prog w base spare held 86 v d p) :
    ∃ (a : Nat) (n : Int), v = .agg #[.int .u32 a, .int .i64 n] ∧ a < 4294967296 ∧ -9223372036854775808 ≤ n ∧ n ≤ 9223372036854775807 := by
  obtain ⟨c0, c1, y0, y1, m, rfl, _, _, h0, h1⟩ := open_agg2 Tryz.underlying86 (by kernel_rfl) (by kernel_rfl) hv h
  obtain ⟨z0, rfl, k0⟩ := one_int Tryz.underlying24 h0
  obtain ⟨z1, rfl, k1⟩ := one_int Tryz.underlying3 h1
  have b0 := bounds_u32 k0
  have b1 := bounds_i64 k1
  obtain ⟨a, rfl⟩ := Int.eq_ofNat_of_zero_le b0.1
  exact ⟨a, z1, rfl, by omega, by omega, by omega⟩

theorem open_ent (hv : Value.okWide Tryz.prog w r b0 57 v) (h : DataW.Trod enc Tryz.prog w base spare held 57 v d p) :
    ∃ (f t : Int) (a m x k : Nat), v = .agg #[.int .i64 f, .int .i64 t, .int .u32 a, .int .u32 m, .int .u32 x, .int .u32 k] ∧ a < 4294967296 ∧ m < 4294967296 ∧ x < 4294967296 ∧ k < 4294967296 := by
  obtain ⟨cs, rfl, hsz⟩ := okWide_struct Tryz.underlying57 hv
  have hC : Tryz.prog.cellsOf 57 = 6 := by kernel_rfl
  obtain ⟨l⟩ := cs
  match l, hsz.trans hC with
  | [c0, c1, c2, c3, c4, c5], _ =>
    obtain ⟨fuel, hf⟩ := h
    obtain ⟨ys, n, _, _, _, hlen, hg⟩ := DataW.trod_struct Tryz.underlying57 hf
    have q3 : Tryz.prog.cellsOf 3 = 1 := by kernel_rfl
    have q23 : Tryz.prog.cellsOf 24 = 1 := by kernel_rfl
    have q22 : Tryz.prog.cellsOf 23 = 1 := by kernel_rfl
    match ys, hlen with
    | [y0, y1, y2, y3, y4, y5], _ =>
      have h0 := hg 0 _ rfl
      have h1 := hg 1 _ rfl
      have h2 := hg 2 _ rfl
      have h3 := hg 3 _ rfl
      have h4 := hg 4 _ rfl
      have h5 := hg 5 _ rfl
      simp [Value.cells, q3, q23, q22] at h0 h1 h2 h3 h4 h5
      obtain ⟨z0, rfl, _⟩ := one_int Tryz.underlying3 h0
      obtain ⟨z1, rfl, _⟩ := one_int Tryz.underlying3 h1
      obtain ⟨z2, rfl, k2⟩ := one_int Tryz.underlying24 h2
      obtain ⟨z3, rfl, k3⟩ := one_int Tryz.underlying24 h3
      obtain ⟨z4, rfl, k4⟩ := one_int Tryz.underlying24 h4
      obtain ⟨z5, rfl, k5⟩ := one_int Tryz.underlying23 h5
      have b2 := bounds_u32 k2
      have b3 := bounds_u32 k3
      have b4 := bounds_u32 k4
      have b5 := bounds_u32 k5
      obtain ⟨a, rfl⟩ := Int.eq_ofNat_of_zero_le b2.1
      obtain ⟨m, rfl⟩ := Int.eq_ofNat_of_zero_le b3.1
      obtain ⟨x, rfl⟩ := Int.eq_ofNat_of_zero_le b4.1
      obtain ⟨k, rfl⟩ := Int.eq_ofNat_of_zero_le b5.1
      exact ⟨z0, z1, a, m, x, k, rfl, by omega, by omega, by omega, by omega⟩
end
end Go.Proofs.YtlanfceilajifaaGreatDoor
