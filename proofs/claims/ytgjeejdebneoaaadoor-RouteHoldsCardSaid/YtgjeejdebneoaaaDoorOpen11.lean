/- A route, and what is heard, that come in by value. -/
import Derived.Test.YtgjeejdebneoaaaDoorOpen8
import Derived.Test.YtgjeejdebneoaaaDoorOpen4
import Derived.Test.YtgjeejdebneoaaaDoorRo5
namespace Go.Proofs.YtgjeejdebneoaaaDoor
set_option linter.unusedVariables false
set_option linter.unusedSimpArgs false
open Go.RowKit Go.ChangeShapes Go.WideShapes Go.Joins Go.Deep
set_option maxRecDepth 100000

section
variable {H : Type} {enc : TypeId × Value → H} {w : World} {base : Nat} {spare : Nat → Bool} {held : Bool} {r : Reach} {b0 : Nat} {v : Value} {d : DataW H} {p : List MemPlace}
theorem one_bool11 {fuel : Nat} {t : TypeId} {c : Value} {y : DataW H × List MemPlace} (ht : Tryd.prog.underlying t = some .bool) (h : DataW.trod enc Tryd.prog w base spare held fuel t [c] = some y) : ∃ b : Bool, c = .bool b := by
  obtain ⟨n, e, _⟩ := DataW.trod_bool ht h
  simp at e
  exact ⟨n, e⟩
theorem open_route (hv : Value.okWide Tryd.prog w r b0 31 v) (h : DataW.Trod enc Tryd.prog w base spare held 31 v d p) :
    ∃ (a : Nat) (m st me lo fa : Int) (nx : Nat) (du : Int) (ch : Bool), v = .agg #[.int .u32 a, .int .i64 m, .int .i64 st, .int .i64 me, .int .i64 lo, .int .i64 fa, .int .u32 nx, .int .i64 du, .bool ch] ∧ a < 4294967296 ∧ nx < 4294967296 := by
  obtain ⟨cs, rfl, hsz⟩ := okWide_struct Tryd.underlying31 hv
  have hC : Tryd.prog.cellsOf 31 = 9 := by kernel_rfl
  obtain ⟨l⟩ := cs
  match l, hsz.trans hC with
  | [c0, c1, c2, c3, c4, c5, c6, c7, c8], _ =>
    obtain ⟨fuel, hf⟩ := h
    obtain ⟨ys, n, _, _, _, hlen, hg⟩ := DataW.trod_struct Tryd.underlying31 hf
    have qp : Tryd.prog.cellsOf 28 = 2 := by kernel_rfl
    have qs : Tryd.prog.cellsOf 29 = 1 := by kernel_rfl
    have qi : Tryd.prog.cellsOf 3 = 1 := by kernel_rfl
    have qa : Tryd.prog.cellsOf 26 = 1 := by kernel_rfl
    have q6 : Tryd.prog.cellsOf 2 = 1 := by kernel_rfl
    have qb : Tryd.prog.cellsOf 4 = 1 := by kernel_rfl
    match ys, hlen with
    | [y0, y1, y2, y3, y4, y5, y6, y7], _ =>
      have h0 := hg 0 _ rfl
      have h1 := hg 1 _ rfl
      have h2 := hg 2 _ rfl
      have h3 := hg 3 _ rfl
      have h4 := hg 4 _ rfl
      have h5 := hg 5 _ rfl
      have h6 := hg 6 _ rfl
      have h7 := hg 7 _ rfl
      simp [Value.cells, qp, qs, qi, qa, q6, qb] at h0 h1 h2 h3 h4 h5 h6 h7
      obtain ⟨ys', n', _, _, _, hlen', hg'⟩ := DataW.trod_struct Tryd.underlying28 h0
      match ys', hlen' with
      | [x0, x1], _ =>
        have g0 := hg' 0 _ rfl
        have g1 := hg' 1 _ rfl
        simp [qa, qi] at g0 g1
        obtain ⟨z0, rfl, k0⟩ := one_int Tryd.underlying26 g0
        obtain ⟨z1, rfl, _⟩ := one_int Tryd.underlying3 g1
        obtain ⟨z2, rfl, _⟩ := one_int Tryd.underlying29 h1
        obtain ⟨z3, rfl, _⟩ := one_int Tryd.underlying3 h2
        obtain ⟨z4, rfl, _⟩ := one_int Tryd.underlying3 h3
        obtain ⟨z5, rfl, _⟩ := one_int Tryd.underlying3 h4
        obtain ⟨z6, rfl, k6⟩ := one_int Tryd.underlying26 h5
        obtain ⟨z7, rfl, _⟩ := one_int Tryd.underlying2 h6
        obtain ⟨z8, rfl⟩ := one_bool11 Tryd.underlying4 h7
        have b0 := bounds_u32 k0
        have b6 := bounds_u32 k6
        obtain ⟨a, rfl⟩ := Int.eq_ofNat_of_zero_le b0.1
        obtain ⟨x, rfl⟩ := Int.eq_ofNat_of_zero_le b6.1
        exact ⟨a, z1, z2, z3, z4, z5, x, z7, z8, rfl, by omega, by omega⟩
theorem open_heard (hv : Value.okWide Tryd.prog w r b0 33 v) (h : DataW.Trod enc Tryd.prog w base spare held 33 v d p) :
    ∃ (hf : Int) (hx : Nat) (hm : Int), v = .agg #[.int .i64 hf, .int .u32 hx, .int .i64 hm] ∧ hx < 4294967296 := by
  obtain ⟨cs, rfl, hsz⟩ := okWide_struct Tryd.underlying33 hv
  have hC : Tryd.prog.cellsOf 33 = 3 := by kernel_rfl
  obtain ⟨l⟩ := cs
  match l, hsz.trans hC with
  | [c0, c1, c2], _ =>
    obtain ⟨fuel, hf⟩ := h
    obtain ⟨ys, n, _, _, _, hlen, hg⟩ := DataW.trod_struct Tryd.underlying33 hf
    have qi : Tryd.prog.cellsOf 3 = 1 := by kernel_rfl
    have qa : Tryd.prog.cellsOf 26 = 1 := by kernel_rfl
    match ys, hlen with
    | [y0, y1, y2], _ =>
      have h0 := hg 0 _ rfl
      have h1 := hg 1 _ rfl
      have h2 := hg 2 _ rfl
      simp [Value.cells, qi, qa] at h0 h1 h2
      obtain ⟨z0, rfl, _⟩ := one_int Tryd.underlying3 h0
      obtain ⟨z1, rfl, k1⟩ := one_int Tryd.underlying26 h1
      obtain ⟨z2, rfl, _⟩ := one_int Tryd.underlying3 h2
      have b1 := bounds_u32 k1
      obtain ⟨a, rfl⟩ := Int.eq_ofNat_of_zero_le b1.1
      exact ⟨z0, a, z2, rfl, by omega⟩
end
end Go.Proofs.YtgjeejdebneoaaaDoor
