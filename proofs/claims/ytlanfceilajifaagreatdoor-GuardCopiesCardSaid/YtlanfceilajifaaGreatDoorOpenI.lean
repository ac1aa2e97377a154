/- Acts (GuardCounts, GuardCopies) that come in. -/
import Derived.Test.YtlanfceilajifaaGreatDoorOpenR
import Derived.Test.YtlanfceilajifaaGreatDoorOpen4
import Derived.Test.YtlanfceilajifaaGreatDoorGuJ
namespace Go.Proofs.YtlanfceilajifaaGreatDoor
set_option linter.unusedVariables false
set_option linter.unusedSimpArgs false
open Go.RowKit Go.ChangeShapes Go.WideShapes Go.Joins Go.Deep
set_option maxRecDepth 100000
instance : Inhabited Ac16 := ⟨⟨0, 0, 0, 0⟩⟩
section
variable {H : Type} {enc : TypeId × Value → H} {w : World} {base : Nat} {spare : Nat → Bool} {held : Bool} {r : Reach} {b0 : Nat} {v : Value} {d : DataW H} {p : List MemPlace}
theorem trod_act16 {fuel : Nat} {cs : List Value} {y : DataW H × List MemPlace} (hlen : cs.length = 4) (hf : DataW.trod enc Tryz.prog w base spare held fuel 72 cs = some y) : ∃ x : Ac16, cs = acL16 x ∧ x.ma ≤ 9223372036854775807 := by
  match cs, hlen with
  | [c0, c1, c2, c3], _ =>
    obtain ⟨ys, n, _, _, _, hlen, hg⟩ := DataW.trod_struct Tryz.underlying72 hf
    have qi : Tryz.prog.cellsOf 3 = 1 := by kernel_rfl
    have qe : Tryz.prog.cellsOf 29 = 1 := by kernel_rfl
    have qr : Tryz.prog.cellsOf 52 = 1 := by kernel_rfl
    match ys, hlen with
    | [y0, y1, y2, y3], _ =>
      have h0 := hg 0 _ rfl
      have h1 := hg 1 _ rfl
      have h2 := hg 2 _ rfl
      have h3 := hg 3 _ rfl
      simp [qi, qe, qr] at h0 h1 h2 h3
      obtain ⟨z0, rfl, _⟩ := one_int Tryz.underlying3 h0
      obtain ⟨z1, rfl, _⟩ := one_int Tryz.underlying29 h1
      obtain ⟨z2, rfl, _⟩ := one_int Tryz.underlying52 h2
      obtain ⟨z3, rfl, k3⟩ := one_int Tryz.underlying3 h3
      have b3 := bounds_i64 k3
      exact ⟨⟨z0, z1, z2, z3⟩, rfl, by show z3 ≤ _; omega⟩
theorem open_acts16 (hv : Value.okWide Tryz.prog w r b0 62 v) (h : DataW.Trod enc Tryz.prog w base spare held 62 v d p) :
    ∃ A cap, ∃ l : List Ac16, v = .slice A l.length cap ∧ l.length ≤ cap ∧ cap ≤ maxLen ∧ Rd w w.heap.size A (l.flatMap acL16) ∧ ∀ x ∈ l, x.ma ≤ 9223372036854775807 := by
  obtain ⟨a, len, cap, rfl⟩ := okWide_slice Tryz.underlying62 hv
  obtain ⟨fuel, hf⟩ := h
  exact open_recs acL16 4 acL16_len (by omega) (fun x => x.ma ≤ 9223372036854775807) Tryz.underlying62 (by kernel_rfl) (fun n cs y hl hc => trod_act16 hl hc) (by simpa [Value.cells] using hf)
theorem open_act16 (hv : Value.okWide Tryz.prog w r b0 72 v) (h : DataW.Trod enc Tryz.prog w base spare held 72 v d p) :
    ∃ x : Ac16, v = .agg #[.int .i64 x.wh, .int .i64 x.er, .int .i64 x.re, .int .i64 x.ma] ∧ x.ma ≤ 9223372036854775807 := by
  obtain ⟨cs, rfl, hsz⟩ := okWide_struct Tryz.underlying72 hv
  have hC : Tryz.prog.cellsOf 72 = 4 := by kernel_rfl
  obtain ⟨fuel, hf⟩ := h
  obtain ⟨x, hx, hm⟩ := trod_act16 (cs := cs.toList) (by simpa using hsz.trans hC) (by simpa [Value.cells] using hf)
  refine ⟨x, ?_, hm⟩
  congr 1
  apply Array.ext'
  rw [hx]
  rfl
end
end Go.Proofs.YtlanfceilajifaaGreatDoor
