/- Faces, addresses, datagrams, entries and calls that come in. -/
import Derived.Test.YtlanfceilajifaaGreatDoorMH
import Derived.Test.YtlanfceilajifaaGreatDoorOpen5
import Derived.Test.YtlanfceilajifaaGreatDoorOpenR
import Derived.Lib.SmallJoins
namespace Go.Proofs.YtlanfceilajifaaGreatDoor
set_option linter.unusedVariables false
set_option linter.unusedSimpArgs false
open Go.RowKit Go.ChangeShapes Go.WideShapes Go.Joins Go.Deep
set_option maxRecDepth 100000
instance : Inhabited Fc := ⟨⟨0, 0, 0, false⟩⟩
section
variable {H : Type} {enc : TypeId × Value → H} {w : World} {base : Nat} {spare : Nat → Bool} {held : Bool} {r : Reach} {b0 : Nat} {v : Value} {d : DataW H} {p : List MemPlace}
theorem one_bool {fuel : Nat} {t : TypeId} {c : Value} {y : DataW H × List MemPlace} (ht : Tryz.prog.underlying t = some .bool) (h : DataW.trod enc Tryz.prog w base spare held fuel t [c] = some y) : ∃ b : Bool, c = .bool b := by
  obtain ⟨n, e, _⟩ := DataW.trod_bool ht h
  simp at e
  exact ⟨n, e⟩
theorem trod_face {fuel : Nat} {cs : List Value} {y : DataW H × List MemPlace} (hlen : cs.length = 4) (hf : DataW.trod enc Tryz.prog w base spare held fuel 88 cs = some y) : ∃ x : Fc, cs = fcL x ∧ fitF x := by
  match cs, hlen with
  | [c0, c1, c2, c3], _ =>
    obtain ⟨ys, n, _, _, _, hlen, hg⟩ := DataW.trod_struct Tryz.underlying88 hf
    have qp : Tryz.prog.cellsOf 86 = 2 := by kernel_rfl
    have qa : Tryz.prog.cellsOf 24 = 1 := by kernel_rfl
    have qb : Tryz.prog.cellsOf 4 = 1 := by kernel_rfl
    have qi : Tryz.prog.cellsOf 3 = 1 := by kernel_rfl
    match ys, hlen with
    | [y0, y1, y2], _ =>
      have h0 := hg 0 _ rfl
      have h1 := hg 1 _ rfl
      have h2 := hg 2 _ rfl
      simp [qp, qa, qb] at h0 h1 h2
      obtain ⟨ys', n', _, _, _, hlen', hg'⟩ := DataW.trod_struct Tryz.underlying86 h0
      match ys', hlen' with
      | [x0, x1], _ =>
        have g0 := hg' 0 _ rfl
        have g1 := hg' 1 _ rfl
        simp [qa, qi] at g0 g1
        obtain ⟨z0, rfl, k0⟩ := one_int Tryz.underlying24 g0
        obtain ⟨z1, rfl, _⟩ := one_int Tryz.underlying3 g1
        obtain ⟨z2, rfl, k2⟩ := one_int Tryz.underlying24 h1
        obtain ⟨z3, rfl⟩ := one_bool Tryz.underlying4 h2
        have b0 := bounds_u32 k0
        have b2 := bounds_u32 k2
        obtain ⟨a, rfl⟩ := Int.eq_ofNat_of_zero_le b0.1
        obtain ⟨x, rfl⟩ := Int.eq_ofNat_of_zero_le b2.1
        exact ⟨⟨a, z1, x, z3⟩, rfl, by show a < _; omega, by show x < _; omega⟩
theorem open_faces (hv : Value.okWide Tryz.prog w r b0 22 v) (h : DataW.Trod enc Tryz.prog w base spare held 22 v d p) :
    ∃ A cap, ∃ l : List Fc, v = .slice A l.length cap ∧ l.length ≤ cap ∧ cap ≤ maxLen ∧ Rd w w.heap.size A (fcC l) ∧ ∀ x ∈ l, fitF x := by
  obtain ⟨a, len, cap, rfl⟩ := okWide_slice Tryz.underlying22 hv
  obtain ⟨fuel, hf⟩ := h
  exact open_recs fcL 4 fcL_len (by omega) fitF Tryz.underlying22 (by kernel_rfl) (fun n cs y hl hc => trod_face hl hc) (by simpa [Value.cells] using hf)
theorem open_u32 (hv : Value.okWide Tryz.prog w r b0 24 v) (h : DataW.Trod enc Tryz.prog w base spare held 24 v d p) : ∃ a : Nat, v = .int .u32 a ∧ a < 4294967296 := by
  obtain ⟨z, rfl, _, _, k⟩ := open_int Tryz.underlying24 hv h
  have b := bounds_u32 k
  obtain ⟨a, rfl⟩ := Int.eq_ofNat_of_zero_le b.1
  exact ⟨a, rfl, by omega⟩
end
end Go.Proofs.YtlanfceilajifaaGreatDoor
