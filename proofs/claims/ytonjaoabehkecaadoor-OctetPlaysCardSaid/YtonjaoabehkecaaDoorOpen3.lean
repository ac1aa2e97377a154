/- Turns that come in as a list. -/
import Derived.Test.YtonjaoabehkecaaDoorRows
import Derived.Test.YtonjaoabehkecaaDoorOP3
import Derived.Test.YtonjaoabehkecaaDoorOpenR
import Derived.Lib.SmallJoins
import Derived.ProofKit
import Derived.OpenShut
namespace Go.Proofs.YtonjaoabehkecaaDoor
set_option linter.unusedVariables false
set_option linter.unusedSimpArgs false
open Go.RowKit Go.ChangeShapes Go.WideShapes Go.Joins Go.Deep
set_option maxRecDepth 100000
section
variable {H : Type} {enc : TypeId × Value → H} {w : World} {base : Nat} {spare : Nat → Bool} {held : Bool} {r : Reach} {b0 : Nat} {v : Value} {d : DataW H} {p : List MemPlace}
theorem one_int {fuel : Nat} {t : TypeId} {k : IntKind} {c : Value} {y : DataW H × List MemPlace} (ht : Tryd.prog.underlying t = some (.int k)) (h : DataW.trod enc Tryd.prog w base spare held fuel t [c] = some y) : ∃ n : Int, c = .int k n ∧ (Lit.int k n).wf = true := by
  obtain ⟨n, e, _, hw⟩ := DataW.trod_int ht h
  simp at e
  exact ⟨n, e, hw⟩
theorem trod_pt {fuel : Nat} {cs : List Value} {y : DataW H × List MemPlace} (hlen : cs.length = 2) (hf : DataW.trod enc Tryd.prog w base spare held fuel 50 cs = some y) : ∃ x : Int × Int, cs = ptL x ∧ x.2 ≤ 9223372036854775807 := by
  match cs, hlen with
  | [c0, c1], _ =>
    obtain ⟨ys, n, _, _, _, hlen, hg⟩ := DataW.trod_struct Tryd.underlying50 hf
    have q3 : Tryd.prog.cellsOf 3 = 1 := by kernel_rfl
    match ys, hlen with
    | [y0, y1], _ =>
      have h0 := hg 0 _ rfl
      have h1 := hg 1 _ rfl
      simp [q3] at h0 h1
      obtain ⟨z0, rfl, _⟩ := one_int Tryd.underlying3 h0
      obtain ⟨z1, rfl, k1⟩ := one_int Tryd.underlying3 h1
      have b1 := bounds_i64 k1
      exact ⟨(z0, z1), rfl, b1.2⟩
theorem open_pts (hv : Value.okWide Tryd.prog w r b0 46 v) (h : DataW.Trod enc Tryd.prog w base spare held 46 v d p) :
    ∃ A cap, ∃ l : List (Int × Int), v = .slice A l.length cap ∧ l.length ≤ cap ∧ cap ≤ maxLen ∧ Rd w w.heap.size A (ptC l) ∧ ∀ x ∈ l, x.2 ≤ 9223372036854775807 := by
  obtain ⟨a, len, cap, rfl⟩ := okWide_slice Tryd.underlying46 hv
  obtain ⟨fuel, hf⟩ := h
  exact open_recs ptL 2 ptL_len (by omega) (fun x => x.2 ≤ 9223372036854775807) Tryd.underlying46 (by kernel_rfl) (fun n cs y hl hc => trod_pt hl hc) (by simpa [Value.cells] using hf)
end
end Go.Proofs.YtonjaoabehkecaaDoor
