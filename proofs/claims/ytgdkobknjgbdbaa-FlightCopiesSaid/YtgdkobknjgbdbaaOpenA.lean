/- Calls that come in as a list. -/
import Derived.Test.YtgdkobknjgbdbaaOpen19
import Derived.Test.YtgdkobknjgbdbaaOpenR
namespace Go.Proofs.Ytgdkobknjgbdbaa
set_option linter.unusedVariables false
set_option linter.unusedSimpArgs false
open Go.RowKit Go.ChangeShapes Go.WideShapes Go.Joins Go.Deep
set_option maxRecDepth 100000
instance : Inhabited Ac := ⟨⟨0, 0, ⟨⟨0, 0, 0, 0, [], 0⟩, none, 0⟩, 0, 0⟩⟩
def ActIn (w : World) (x : Ac) : Prop := (x.ml.m.bs.length ≤ x.ml.c ∧ x.ml.c ≤ maxLen ∧ Rd w w.heap.size x.ml.A (x.ml.m.bs.map b8)) ∧ x.nw ≤ 9223372036854775807
section
variable {H : Type} {enc : TypeId × Value → H} {w : World} {base : Nat} {spare : Nat → Bool} {held : Bool} {r : Reach} {b0 : Nat} {v : Value} {d : DataW H} {p : List MemPlace}
theorem trod_act {fuel : Nat} {cs : List Value} {y : DataW H × List MemPlace} (hlen : cs.length = 10) (hf : DataW.trod enc Try.prog w base spare held fuel 45 cs = some y) : ∃ x : Ac, cs = acL x ∧ ActIn w x := by
  match cs, hlen with
  | [c0, c1, c2, c3, c4, c5, c6, c7, c8, c9], _ =>
    obtain ⟨ys, n, _, _, _, hlen, hg⟩ := DataW.trod_struct Try.underlying45 hf
    have q3 : Try.prog.cellsOf 3 = 1 := by kernel_rfl
    have q33 : Try.prog.cellsOf 33 = 6 := by kernel_rfl
    have q2 : Try.prog.cellsOf 2 = 1 := by kernel_rfl
    match ys, hlen with
    | [y0, y1, y2, y3, y4], _ =>
      have h0 := hg 0 _ rfl
      have h1 := hg 1 _ rfl
      have h2 := hg 2 _ rfl
      have h3 := hg 3 _ rfl
      have h4 := hg 4 _ rfl
      simp [q3, q33, q2] at h0 h1 h2 h3 h4
      obtain ⟨z0, rfl, _⟩ := one_int Try.underlying3 h0
      obtain ⟨z1, rfl, _⟩ := one_int Try.underlying3 h1
      obtain ⟨r, e, hr⟩ := trod_mail (by rfl) h2
      obtain ⟨z3, rfl, k3⟩ := one_int Try.underlying2 h3
      obtain ⟨z4, rfl, _⟩ := one_int Try.underlying2 h4
      have b3 := bounds_i64 k3
      simp only [mlL, List.cons.injEq, and_true] at e
      obtain ⟨rfl, rfl, rfl, rfl, rfl, rfl⟩ := e
      exact ⟨⟨z0, z1, r, z3, z4⟩, rfl, hr, b3.2⟩
theorem open_acts (hv : Value.okWide Try.prog w r b0 43 v) (h : DataW.Trod enc Try.prog w base spare held 43 v d p) :
    ∃ A cap, ∃ l : List Ac, v = .slice A l.length cap ∧ l.length ≤ cap ∧ cap ≤ maxLen ∧ Rd w w.heap.size A (acC l) ∧ ∀ x ∈ l, ActIn w x := by
  obtain ⟨a, len, cap, rfl⟩ := okWide_slice Try.underlying43 hv
  obtain ⟨fuel, hf⟩ := h
  exact open_recs acL 10 acL_len (by omega) (ActIn w) Try.underlying43 (by kernel_rfl) (fun n cs y hl hc => trod_act hl hc) (by simpa [Value.cells] using hf)
theorem open_two (hv : Value.okWide Try.prog w r b0 63 v) (h : DataW.Trod enc Try.prog w base spare held 63 v d p) :
    ∃ x y : Ac, v = .agg (acL x ++ acL y).toArray ∧ ActIn w x ∧ ActIn w y := by
  have hu : Try.prog.underlying 63 = some (.array 2 45) := by kernel_rfl
  simp only [Value.okWide, hu] at hv
  obtain ⟨cs, rfl, hsz, _⟩ := hv
  have hC : Try.prog.cellsOf 63 = 20 := by kernel_rfl
  have hE : Try.prog.cellsOf 45 = 10 := by kernel_rfl
  obtain ⟨l⟩ := cs
  obtain ⟨fuel, hf⟩ := h
  have hf' : DataW.trod enc Try.prog w base spare held fuel 63 l = some (d, p) := by simpa [Value.cells] using hf
  obtain ⟨ys, m, _, _, hlen, hyl, hg⟩ := DataW.trod_array hu hf'
  rw [hC] at hlen
  match ys, hyl with
  | [y0, y1], _ =>
    have g0 := hg 0 (by omega)
    have g1 := hg 1 (by omega)
    rw [hE] at g0 g1
    obtain ⟨x, hx, hxi⟩ := trod_act (by simp; omega) g0
    obtain ⟨y, hy, hyi⟩ := trod_act (by simp; omega) g1
    refine ⟨x, y, ?_, hxi, hyi⟩
    rw [← hx, ← hy]
    congr 2
    simp only [Nat.zero_mul, List.drop_zero, Nat.one_mul]
    rw [List.take_of_length_le (l := l.drop 10) (by simp; omega), List.take_append_drop]
end
end Go.Proofs.Ytgdkobknjgbdbaa
