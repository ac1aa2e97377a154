/- Faces, addresses and calls that come in. -/
import Derived.Test.YtfgbliglgdkgpaaDoorFaC
import Derived.Test.YtfgbliglgdkgpaaDoorFaAc
import Derived.Test.YtfgbliglgdkgpaaDoorOpenR
import Derived.Test.YtfgbliglgdkgpaaDoorRows
import Derived.Lib.SmallJoins
import Derived.ProofKit
import Derived.OpenShut
namespace Go.Proofs.YtfgbliglgdkgpaaDoor
set_option linter.unusedVariables false
set_option linter.unusedSimpArgs false
open Go.RowKit Go.ChangeShapes Go.WideShapes Go.Joins Go.Deep
set_option maxRecDepth 100000
instance : Inhabited Fc := ⟨⟨0, 0, 0, false⟩⟩
section
variable {H : Type} {enc : TypeId × Value → H} {w : World} {base : Nat} {spare : Nat → Bool} {held : Bool} {r : Reach} {b0 : Nat} {v : Value} {d : DataW H} {p : List MemPlace}
theorem one_int {fuel : Nat} {t : TypeId} {k : IntKind} {c : Value} {y : DataW H × List MemPlace} (ht : Tryd.prog.underlying t = some (.int k)) (h : DataW.trod enc Tryd.prog w base spare held fuel t [c] = some y) : ∃ n : Int, c = .int k n ∧ (Lit.int k n).wf = true := by
  obtain ⟨n, e, _, hw⟩ := DataW.trod_int ht h
  simp at e
  exact ⟨n, e, hw⟩
theorem one_bool {fuel : Nat} {t : TypeId} {c : Value} {y : DataW H × List MemPlace} (ht : Tryd.prog.underlying t = some .bool) (h : DataW.trod enc Tryd.prog w base spare held fuel t [c] = some y) : ∃ b : Bool, c = .bool b := by
  obtain ⟨n, e, _⟩ := DataW.trod_bool ht h
  simp at e
  exact ⟨n, e⟩
theorem trod_face {fuel : Nat} {cs : List Value} {y : DataW H × List MemPlace} (hlen : cs.length = 4) (hf : DataW.trod enc Tryd.prog w base spare held fuel 35 cs = some y) : ∃ x : Fc, cs = fcL x ∧ fitF x := by
  match cs, hlen with
  | [c0, c1, c2, c3], _ =>
    obtain ⟨ys, n, _, _, _, hlen, hg⟩ := DataW.trod_struct Tryd.underlying35 hf
    have qp : Tryd.prog.cellsOf 33 = 2 := by kernel_rfl
    have qa : Tryd.prog.cellsOf 24 = 1 := by kernel_rfl
    have qb : Tryd.prog.cellsOf 4 = 1 := by kernel_rfl
    have qi : Tryd.prog.cellsOf 3 = 1 := by kernel_rfl
    match ys, hlen with
    | [y0, y1, y2], _ =>
      have h0 := hg 0 _ rfl
      have h1 := hg 1 _ rfl
      have h2 := hg 2 _ rfl
      simp [qp, qa, qb] at h0 h1 h2
      obtain ⟨ys', n', _, _, _, hlen', hg'⟩ := DataW.trod_struct Tryd.underlying33 h0
      match ys', hlen' with
      | [x0, x1], _ =>
        have g0 := hg' 0 _ rfl
        have g1 := hg' 1 _ rfl
        simp [qa, qi] at g0 g1
        obtain ⟨z0, rfl, k0⟩ := one_int Tryd.underlying24 g0
        obtain ⟨z1, rfl, _⟩ := one_int Tryd.underlying3 g1
        obtain ⟨z2, rfl, k2⟩ := one_int Tryd.underlying24 h1
        obtain ⟨z3, rfl⟩ := one_bool Tryd.underlying4 h2
        have b0 := bounds_u32 k0
        have b2 := bounds_u32 k2
        obtain ⟨a, rfl⟩ := Int.eq_ofNat_of_zero_le b0.1
        obtain ⟨x, rfl⟩ := Int.eq_ofNat_of_zero_le b2.1
        exact ⟨⟨a, z1, x, z3⟩, rfl, by show a < _; omega, by show x < _; omega⟩
theorem open_faces (hv : Value.okWide Tryd.prog w r b0 22 v) (h : DataW.Trod enc Tryd.prog w base spare held 22 v d p) :
    ∃ A cap, ∃ l : List Fc, v = .slice A l.length cap ∧ l.length ≤ cap ∧ cap ≤ maxLen ∧ Rd w w.heap.size A (fcC l) ∧ ∀ x ∈ l, fitF x := by
  obtain ⟨a, len, cap, rfl⟩ := okWide_slice Tryd.underlying22 hv
  obtain ⟨fuel, hf⟩ := h
  exact open_recs fcL 4 fcL_len (by omega) fitF Tryd.underlying22 (by kernel_rfl) (fun n cs y hl hc => trod_face hl hc) (by simpa [Value.cells] using hf)
theorem trod_act9 {fuel : Nat} {cs : List Value} {y : DataW H × List MemPlace} (hlen : cs.length = 3) (hf : DataW.trod enc Tryd.prog w base spare held fuel 46 cs = some y) : ∃ x : Ac9, cs = ac9L x ∧ True := by
  match cs, hlen with
  | [c0, c1, c2], _ =>
    obtain ⟨ys, n, _, _, _, hlen, hg⟩ := DataW.trod_struct Tryd.underlying46 hf
    have qb : Tryd.prog.cellsOf 4 = 1 := by kernel_rfl
    have qi : Tryd.prog.cellsOf 3 = 1 := by kernel_rfl
    match ys, hlen with
    | [y0, y1, y2], _ =>
      have h0 := hg 0 _ rfl
      have h1 := hg 1 _ rfl
      have h2 := hg 2 _ rfl
      simp [qi, qb] at h0 h1 h2
      obtain ⟨z0, rfl, _⟩ := one_int Tryd.underlying3 h0
      obtain ⟨z1, rfl, _⟩ := one_int Tryd.underlying3 h1
      obtain ⟨z2, rfl⟩ := one_bool Tryd.underlying4 h2
      exact ⟨⟨z0, z1, z2⟩, rfl, trivial⟩
theorem open_act9 (hv : Value.okWide Tryd.prog w r b0 46 v) (h : DataW.Trod enc Tryd.prog w base spare held 46 v d p) : ∃ x : Ac9, v = .agg (ac9L x).toArray := by
  obtain ⟨cs, rfl, hsz⟩ := okWide_struct Tryd.underlying46 hv
  have hC : Tryd.prog.cellsOf 46 = 3 := by kernel_rfl
  obtain ⟨l⟩ := cs
  obtain ⟨fuel, hf⟩ := h
  obtain ⟨x, hx, _⟩ := trod_act9 (hsz.trans hC) hf
  exact ⟨x, by rw [← hx]⟩
theorem open_acts9 (hv : Value.okWide Tryd.prog w r b0 54 v) (h : DataW.Trod enc Tryd.prog w base spare held 54 v d p) :
    ∃ A cap, ∃ l : List Ac9, v = .slice A l.length cap ∧ l.length ≤ cap ∧ cap ≤ maxLen ∧ Rd w w.heap.size A (l.flatMap ac9L) ∧ ∀ x ∈ l, True := by
  obtain ⟨a, len, cap, rfl⟩ := okWide_slice Tryd.underlying54 hv
  obtain ⟨fuel, hf⟩ := h
  exact open_recs ac9L 3 ac9L_len (by omega) (fun _ => True) Tryd.underlying54 (by kernel_rfl) (fun n cs y hl hc => trod_act9 hl hc) (by simpa [Value.cells] using hf)
theorem open_u32 (hv : Value.okWide Tryd.prog w r b0 24 v) (h : DataW.Trod enc Tryd.prog w base spare held 24 v d p) : ∃ a : Nat, v = .int .u32 a ∧ a < 4294967296 := by
  obtain ⟨z, rfl, _, _, k⟩ := open_int Tryd.underlying24 hv h
  have b := bounds_u32 k
  obtain ⟨a, rfl⟩ := Int.eq_ofNat_of_zero_le b.1
  exact ⟨a, rfl, by omega⟩
end
end Go.Proofs.YtfgbliglgdkgpaaDoor
