/- A mail, and a call, that come in by value. -/
import Derived.Test.YtgdkobknjgbdbaaRows
import Derived.Test.YtgdkobknjgbdbaaFlN
import Derived.Lib.SmallJoins
import Derived.ProofKit
import Derived.OpenShut
import Derived.Deep.SlicePairs
namespace Go.Proofs.Ytgdkobknjgbdbaa
set_option linter.unusedVariables false
set_option linter.unusedSimpArgs false
open Go.RowKit Go.ChangeShapes Go.WideShapes Go.Joins Go.Deep
set_option maxRecDepth 100000
theorem own : ownKnob Try.prog.godebug = none := by kernel_rfl
theorem laidOut : laidOutB Try.prog = true := by kernel_rfl

section
variable {H : Type} {enc : TypeId × Value → H} {w : World} {base : Nat} {spare : Nat → Bool} {held : Bool} {r : Reach} {b0 : Nat} {v : Value} {d : DataW H} {p : List MemPlace}
theorem one_int {fuel : Nat} {t : TypeId} {k : IntKind} {c : Value} {y : DataW H × List MemPlace} (ht : Try.prog.underlying t = some (.int k)) (h : DataW.trod enc Try.prog w base spare held fuel t [c] = some y) : ∃ n : Int, c = .int k n ∧ (Lit.int k n).wf = true := by
  obtain ⟨n, e, _, hw⟩ := DataW.trod_int ht h
  simp at e
  exact ⟨n, e, hw⟩
/-- the cell of a field that is a slice of bytes -/
theorem one_bytes {fuel : Nat} {c : Value} {y : DataW H × List MemPlace} (h : DataW.trod enc Try.prog w base spare held fuel 31 [c] = some y) :
    ∃ A k, ∃ l : List UInt8, c = .slice A l.length k ∧ l.length ≤ k ∧ k ≤ maxLen ∧ Rd w w.heap.size A (l.map b8) := by
  rcases open_ints Try.underlying31 Try.underlying5 (by kernel_rfl) h with ⟨hcs, _⟩ | ⟨x, len, cap, zs, hcs, _, hl, hm, hz, _, hcell, hwz⟩
  · simp at hcs
    subst hcs
    exact ⟨none, 0, [], rfl, by simp, by simp [maxLen], Rd.nil⟩
  · simp at hcs
    subst hcs
    have hlen : ((zs.take len).map fun z => UInt8.ofNat z.toNat).length = len := by
      have : len ≤ zs.length := by have : zs.length = _ := hz; split at this <;> omega
      simp; omega
    refine ⟨_, cap, (zs.take len).map fun z => UInt8.ofNat z.toNat, by rw [hlen], by omega, hm, fun h0 => ?_⟩
    have hlz : len ≤ zs.length := by simp at hlen; omega
    have hpos : 0 < zs.length := by simp at h0; omega
    obtain ⟨b, off, rfl, hc⟩ := ints_at hcell hpos
    have hb := cell_lt (hc 0 hpos)
    refine ⟨b, off, rfl, hb, fun i u hu => ?_⟩
    have hi : i < len := by
      rcases Nat.lt_or_ge i len with h | h
      · exact h
      · rw [List.getElem?_eq_none (by simp; omega)] at hu; cases hu
    rw [hc i (by omega)]
    have hw := hwz (zs.getD i 0) (by simp [List.getD, List.getElem?_eq_getElem (show i < zs.length by omega)])
    have hbd := bounds_u8 hw
    simp only [List.map_map, List.getElem?_map, List.getElem?_take, if_pos hi, List.getElem?_eq_getElem (show i < zs.length by omega), Option.map_some] at hu
    injection hu with hu
    subst hu
    simp only [List.getD, List.getElem?_eq_getElem (show i < zs.length by omega), Option.getD_some] at hbd ⊢
    simp only [b8, Function.comp, u8_ofNat]
    congr 2
    omega
def MailIn (w : World) (r : Ml) : Prop := r.m.bs.length ≤ r.c ∧ r.c ≤ maxLen ∧ Rd w w.heap.size r.A (r.m.bs.map b8)
theorem trod_mail {fuel : Nat} {cs : List Value} {y : DataW H × List MemPlace} (hlen : cs.length = 6) (h : DataW.trod enc Try.prog w base spare held fuel 33 cs = some y) : ∃ r : Ml, cs = mlL r ∧ MailIn w r := by
  match cs, hlen with
  | [c0, c1, c2, c3, c4, c5], _ =>
    obtain ⟨ys, n, _, _, _, hlen, hg⟩ := DataW.trod_struct Try.underlying33 h
    have q3 : Try.prog.cellsOf 3 = 1 := by kernel_rfl
    have q23 : Try.prog.cellsOf 30 = 1 := by kernel_rfl
    have q22 : Try.prog.cellsOf 31 = 1 := by kernel_rfl
    have q2 : Try.prog.cellsOf 2 = 1 := by kernel_rfl
    match ys, hlen with
    | [y0, y1, y2, y3, y4, y5], _ =>
      have h0 := hg 0 _ rfl
      have h1 := hg 1 _ rfl
      have h2 := hg 2 _ rfl
      have h3 := hg 3 _ rfl
      have h4 := hg 4 _ rfl
      have h5 := hg 5 _ rfl
      simp [q3, q23, q22, q2] at h0 h1 h2 h3 h4 h5
      obtain ⟨z0, rfl, _⟩ := one_int Try.underlying3 h0
      obtain ⟨z1, rfl, _⟩ := one_int Try.underlying3 h1
      obtain ⟨z2, rfl, _⟩ := one_int Try.underlying3 h2
      obtain ⟨z3, rfl, k3⟩ := one_int Try.underlying30 h3
      obtain ⟨A, k, l, rfl, e1, e2, e3⟩ := one_bytes h4
      obtain ⟨z5, rfl, _⟩ := one_int Try.underlying2 h5
      have b3 := bounds_u32 k3
      obtain ⟨a, rfl⟩ := Int.eq_ofNat_of_zero_le b3.1
      exact ⟨⟨⟨z0, z1, z2, a, l, z5⟩, A, k⟩, rfl, e1, e2, e3⟩
theorem open_mail (hv : Value.okWide Try.prog w r b0 33 v) (h : DataW.Trod enc Try.prog w base spare held 33 v d p) : ∃ r : Ml, v = .agg (mlA r) ∧ MailIn w r := by
  obtain ⟨cs, rfl, hsz⟩ := okWide_struct Try.underlying33 hv
  have hC : Try.prog.cellsOf 33 = 6 := by kernel_rfl
  obtain ⟨l⟩ := cs
  obtain ⟨fuel, hf⟩ := h
  have hlen : l.length = 6 := by simpa using hsz.trans hC
  have hf' : DataW.trod enc Try.prog w base spare held fuel 33 l = some (d, p) := by simpa [Value.cells] using hf
  obtain ⟨r, e, hr⟩ := trod_mail hlen hf'
  subst e
  exact ⟨r, rfl, hr⟩
theorem open_act (hv : Value.okWide Try.prog w r b0 45 v) (h : DataW.Trod enc Try.prog w base spare held 45 v d p) :
    ∃ x : Ac, v = .agg (acA x) ∧ MailIn w x.ml ∧ (-9223372036854775808 ≤ x.nw ∧ x.nw ≤ 9223372036854775807) := by
  obtain ⟨cs, rfl, hsz⟩ := okWide_struct Try.underlying45 hv
  have hC : Try.prog.cellsOf 45 = 10 := by kernel_rfl
  obtain ⟨l⟩ := cs
  match l, hsz.trans hC with
  | [c0, c1, c2, c3, c4, c5, c6, c7, c8, c9], _ =>
    obtain ⟨fuel, hf⟩ := h
    obtain ⟨ys, n, _, _, _, hlen, hg⟩ := DataW.trod_struct Try.underlying45 hf
    have q3 : Try.prog.cellsOf 3 = 1 := by kernel_rfl
    have q33 : Try.prog.cellsOf 33 = 6 := by kernel_rfl
    have q2 : Try.prog.cellsOf 2 = 1 := by kernel_rfl
    match ys, hlen with
    | [y0, y1, y2, y3, y4], _ =>
      have h0 := hg 0 _ rfl
      have h1 := hg 1 _ rfl
      have h2 := hg 2 _ rfl
      have h3 := hg 3 _ rfl
      have h4 := hg 4 _ rfl
      simp [Value.cells, q3, q33, q2] at h0 h1 h2 h3 h4
      obtain ⟨z0, rfl, _⟩ := one_int Try.underlying3 h0
      obtain ⟨z1, rfl, _⟩ := one_int Try.underlying3 h1
      obtain ⟨r, e, hr⟩ := trod_mail (by rfl) h2
      obtain ⟨z3, rfl, k3⟩ := one_int Try.underlying2 h3
      obtain ⟨z4, rfl, _⟩ := one_int Try.underlying2 h4
      have b3 := bounds_i64 k3
      simp only [mlL, List.cons.injEq, and_true] at e
      obtain ⟨rfl, rfl, rfl, rfl, rfl, rfl⟩ := e
      exact ⟨⟨z0, z1, r, z3, z4⟩, rfl, hr, b3⟩
end
end Go.Proofs.Ytgdkobknjgbdbaa
