/- A pulse that comes in by value. -/
import Derived.Test.YtlgkjboamfgbeaaDoorOpen8
namespace Go.Proofs.YtlgkjboamfgbeaaDoor
set_option linter.unusedVariables false
set_option linter.unusedSimpArgs false
open Go.RowKit Go.ChangeShapes Go.WideShapes Go.Joins Go.Deep
set_option maxRecDepth 100000

section
variable {H : Type} {enc : TypeId × Value → H} {w : World} {base : Nat} {spare : Nat → Bool} {held : Bool} {r : Reach} {b0 : Nat} {v : Value} {d : DataW H} {p : List MemPlace}
theorem open_pulse (hv : Value.okWide Tryd.prog w r b0 28 v) (h : DataW.Trod enc Tryd.prog w base spare held 28 v d p) :
    ∃ (a b : Int) (c : Bool), v = .agg #[.int .i64 a, .int .i64 b, .bool c] ∧ (-9223372036854775808 ≤ a ∧ a ≤ 9223372036854775807) ∧ (-9223372036854775808 ≤ b ∧ b ≤ 9223372036854775807) := by
  obtain ⟨cs, rfl, hsz⟩ := okWide_struct Tryd.underlying28 hv
  have hC : Tryd.prog.cellsOf 28 = 3 := by kernel_rfl
  obtain ⟨l⟩ := cs
  match l, hsz.trans hC with
  | [c0, c1, c2], _ =>
    obtain ⟨fuel, hf⟩ := h
    obtain ⟨ys, n, _, _, _, hlen, hg⟩ := DataW.trod_struct Tryd.underlying28 hf
    have q2 : Tryd.prog.cellsOf 2 = 1 := by kernel_rfl
    have q3 : Tryd.prog.cellsOf 4 = 1 := by kernel_rfl
    match ys, hlen with
    | [y0, y1, y2], _ =>
      have h0 := hg 0 _ rfl
      have h1 := hg 1 _ rfl
      have h2 := hg 2 _ rfl
      simp [Value.cells, q2, q3] at h0 h1 h2
      obtain ⟨z0, rfl, k0⟩ := one_int Tryd.underlying2 h0
      obtain ⟨z1, rfl, k1⟩ := one_int Tryd.underlying2 h1
      obtain ⟨b, e, _⟩ := DataW.trod_bool Tryd.underlying4 h2
      simp at e
      subst e
      exact ⟨z0, z1, b, rfl, bounds_i64 k0, bounds_i64 k1⟩
end
end Go.Proofs.YtlgkjboamfgbeaaDoor
