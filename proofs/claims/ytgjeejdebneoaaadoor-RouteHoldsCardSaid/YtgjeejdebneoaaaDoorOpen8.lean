/- A configuration that comes in by value. -/
import Derived.Test.YtgjeejdebneoaaaDoorOpen4
import Derived.Test.YtgjeejdebneoaaaDoorCfg3
import Derived.Deep.SlicePairs
namespace Go.Proofs.YtgjeejdebneoaaaDoor
set_option linter.unusedVariables false
set_option linter.unusedSimpArgs false
open Go.RowKit Go.ChangeShapes Go.WideShapes Go.Joins Go.Deep
set_option maxRecDepth 100000

section
variable {H : Type} {enc : TypeId × Value → H} {w : World} {base : Nat} {spare : Nat → Bool} {held : Bool} {r : Reach} {b0 : Nat} {v : Value} {d : DataW H} {p : List MemPlace}

/-- the cell of a field that is a list of prefixes -/
theorem one_pl {fuel : Nat} {c : Value} {y : DataW H × List MemPlace} (h : DataW.trod enc Tryd.prog w base spare held fuel 22 [c] = some y) :
    ∃ A k, ∃ l : List (Nat × Int), c = .slice A l.length k ∧ l.length ≤ k ∧ k ≤ maxLen ∧ Rd w w.heap.size A (plC l) ∧ ∀ x ∈ l, x.1 < 4294967296 := by
  have hu : Tryd.prog.underlying 28 = some (.struct (Tryd.prog.fieldsOf 28)) := by simp [Program.fieldsOf, Tryd.underlying28]
  rcases open_slice_pairs Tryd.underlying22 Tryd.underlying28 (by kernel_rfl) rfl rfl (by kernel_rfl) (by kernel_rfl) h with ⟨hc, _⟩ | ⟨a, len, cap, m, n, V0, V1, D0, D1, P0, P1, hc, _, hl, hm, hmm, _, hx⟩
  · simp at hc
    subst hc
    exact ⟨none, 0, [], rfl, by simp, by simp [maxLen], Rd.nil, by simp⟩
  · simp at hc
    subst hc
    have hlm : len ≤ m := by rw [hmm]; split <;> omega
    have hv : ∀ i, i < len → ∃ x : Nat × Int, V0 i = .int .u32 x.1 ∧ V1 i = .int .i64 x.2 ∧ x.1 < 4294967296 := fun i hi => by
      obtain ⟨_, _, h0, h1⟩ := hx i (by omega)
      obtain ⟨z0, e0, k0⟩ := one_int Tryd.underlying26 h0
      obtain ⟨z1, e1, k1⟩ := one_int Tryd.underlying3 h1
      have b0 := bounds_u32 k0
      obtain ⟨z, rfl⟩ := Int.eq_ofNat_of_zero_le b0.1
      exact ⟨(z, z1), e0, e1, by omega⟩
    obtain ⟨q, hq⟩ := choose_lt hv
    refine ⟨some a, cap, (List.range len).map q, by simp, by simpa using hl, hm, fun h0 => ?_, fun x hx' => ?_⟩
    · rw [plC_len] at h0
      have hpos : 0 < len := by simp at h0; omega
      obtain ⟨b, off, sp⟩ := a
      have hsp : sp = none := by simpa [Addr.add] using World.cell?_spot (hx 0 (by omega)).1
      subst hsp
      refine ⟨b, off, rfl, cell_lt (hx 0 (by omega)).1, fun i u hu => ?_⟩
      have hi : i < len * 2 := by
        rcases Nat.lt_or_ge i (len * 2) with h | h
        · exact h
        · rw [List.getElem?_eq_none (by rw [plC_len]; simpa using h)] at hu; cases hu
      have hc : i / 2 < len := by omega
      have hg := plC_get ((List.range len).map q) (i / 2) (q (i / 2)) (by simp [hc])
      obtain ⟨e0, e1, _⟩ := hq (i / 2) hc
      obtain ⟨c0, c1, _⟩ := hx (i / 2) (by omega)
      rw [Go.WideShapes.add_plain] at c0 c1
      rcases Nat.mod_two_eq_zero_or_one i with hm2 | hm2
      · rw [show i / 2 * 2 = i by omega] at c0 hg
        rw [hg.1] at hu
        injection hu with hu
        rw [c0, e0, hu]
      · rw [show i / 2 * 2 + 1 = i by omega] at c1 hg
        rw [hg.2] at hu
        injection hu with hu
        rw [c1, e1, hu]
    · simp at hx'
      obtain ⟨i, hi, rfl⟩ := hx'
      exact (hq i hi).2.2

theorem open_cfg (hv : Value.okWide Tryd.prog w r b0 24 v) (h : DataW.Trod enc Tryd.prog w base spare held 24 v d p) :
    ∃ (p j t h g q s cp : Int) (A : Option Addr) (k : Nat) (l : List (Nat × Int)), v = .agg #[.int .i64 p, .int .i64 j, .int .i64 t, .int .i64 h, .int .i64 g, .int .i64 q, .int .i64 s, .int .i64 cp, .slice A l.length k] ∧ l.length ≤ k ∧ k ≤ maxLen ∧ Rd w w.heap.size A (plC l) ∧ (∀ x ∈ l, x.1 < 4294967296) ∧ ((-9223372036854775808 ≤ p ∧ p ≤ 9223372036854775807) ∧ (-9223372036854775808 ≤ j ∧ j ≤ 9223372036854775807) ∧ (-9223372036854775808 ≤ q ∧ q ≤ 9223372036854775807) ∧ (-9223372036854775808 ≤ s ∧ s ≤ 9223372036854775807)) := by
  obtain ⟨cs, rfl, hsz⟩ := okWide_struct Tryd.underlying24 hv
  have hC : Tryd.prog.cellsOf 24 = 9 := by kernel_rfl
  obtain ⟨l⟩ := cs
  match l, hsz.trans hC with
  | [c0, c1, c2, c3, c4, c5, c6, c7, c8], _ =>
    obtain ⟨fuel, hf⟩ := h
    obtain ⟨ys, n, _, _, _, hlen, hg⟩ := DataW.trod_struct Tryd.underlying24 hf
    have q2 : Tryd.prog.cellsOf 2 = 1 := by kernel_rfl
    have q3 : Tryd.prog.cellsOf 3 = 1 := by kernel_rfl
    have q22 : Tryd.prog.cellsOf 22 = 1 := by kernel_rfl
    match ys, hlen with
    | [y0, y1, y2, y3, y4, y5, y6, y7, y8], _ =>
      have h0 := hg 0 _ rfl
      have h1 := hg 1 _ rfl
      have h2 := hg 2 _ rfl
      have h3 := hg 3 _ rfl
      have h4 := hg 4 _ rfl
      have h5 := hg 5 _ rfl
      have h6 := hg 6 _ rfl
      have h7 := hg 7 _ rfl
      have h8 := hg 8 _ rfl
      simp [Value.cells, q2, q3, q22] at h0 h1 h2 h3 h4 h5 h6 h7 h8
      obtain ⟨z0, rfl, k0⟩ := one_int Tryd.underlying2 h0
      obtain ⟨z1, rfl, k1⟩ := one_int Tryd.underlying2 h1
      obtain ⟨z2, rfl, _⟩ := one_int Tryd.underlying2 h2
      obtain ⟨z3, rfl, _⟩ := one_int Tryd.underlying2 h3
      obtain ⟨z4, rfl, _⟩ := one_int Tryd.underlying2 h4
      obtain ⟨z5, rfl, k5⟩ := one_int Tryd.underlying2 h5
      obtain ⟨z6, rfl, k6⟩ := one_int Tryd.underlying2 h6
      obtain ⟨z7, rfl, _⟩ := one_int Tryd.underlying3 h7
      obtain ⟨A, k, l, rfl, e1, e2, e3, e4⟩ := one_pl h8
      exact ⟨z0, z1, z2, z3, z4, z5, z6, z7, A, k, l, rfl, e1, e2, e3, e4, bounds_i64 k0, bounds_i64 k1, bounds_i64 k5, bounds_i64 k6⟩
end
end Go.Proofs.YtgjeejdebneoaaaDoor
