/- MO: OpenR, OpenH: several texts in one. -/
import Derived.Test.YtgjeejdebneoaaaDoorRowX
import Derived.Deep.Slices
import Derived.Test.YtgjeejdebneoaaaDoorOpen11
import Derived.Test.YtgjeejdebneoaaaDoorRoM
/- An argument that is a slice of records, opened at every record. -/
namespace Go.Proofs.YtgjeejdebneoaaaDoor
set_option linter.unusedVariables false
set_option linter.unusedSimpArgs false
open Go.RowKit Go.ChangeShapes Go.WideShapes Go.Deep
section
variable {H : Type} {enc : TypeId × Value → H} {P : Program} {w : World} {base : Nat} {spare : Nat → Bool} {held : Bool}
theorem open_recs {α : Type} [Inhabited α] (f : α → List Value) (k : Nat) (hk : ∀ x, (f x).length = k) (hk0 : 0 < k) (q : α → Prop) {t e : TypeId} {fuel : Nat} {c : Value} {y : DataW H × List MemPlace} (ht : P.underlying t = some (.slice e)) (hce : P.cellsOf e = k)
    (hq : ∀ (n : Nat) (cs : List Value) (y : DataW H × List MemPlace), cs.length = k → DataW.trod enc P w base spare held n e cs = some y → ∃ x, cs = f x ∧ q x)
    (h : DataW.trod enc P w base spare held fuel t [c] = some y) :
    ∃ A cap, ∃ l : List α, c = .slice A l.length cap ∧ l.length ≤ cap ∧ cap ≤ maxLen ∧ Rd w w.heap.size A (l.flatMap f) ∧ ∀ x ∈ l, q x := by
  rcases open_slice ht h with ⟨hc, _⟩ | ⟨a, len, cap, m, n, D, Pl, hc, _, hl, hm, hmm, _, hx⟩
  · simp at hc
    subst hc
    exact ⟨none, 0, [], rfl, by simp, by simp [maxLen], Rd.nil, by simp⟩
  · simp at hc
    subst hc
    have hlm : len ≤ m := by rw [hmm]; split <;> omega
    have hv : ∀ i, i < len → ∃ x : α, (∀ j, j < k → w.cell? ((a.add (i * k)).add j) = (f x)[j]?) ∧ q x := fun i hi => by
      obtain ⟨cs', h1, h2⟩ := hx i (by omega)
      rw [hce] at h1
      obtain ⟨_, hlen, hcell⟩ := World.cells?_some h1
      obtain ⟨x, rfl, hqx⟩ := hq n cs' _ hlen h2
      exact ⟨x, fun j hj => hcell j hj, hqx⟩
    obtain ⟨g, hg⟩ := choose_lt hv
    refine ⟨some a, cap, (List.range len).map g, by simp, by simpa using hl, hm, fun h0 => ?_, fun x hx' => ?_⟩
    · rw [rows_len hk] at h0
      have hpos : 0 < len := by
        rcases Nat.eq_zero_or_pos len with h | h
        · subst h; simp at h0
        · exact h
      obtain ⟨b, off, sp⟩ := a
      obtain ⟨u0, hu0⟩ : ∃ u, (f (g 0))[0]? = some u := ⟨_, List.getElem?_eq_getElem (by rw [hk]; exact hk0)⟩
      have h00 := (hg 0 hpos).1 0 hk0
      rw [hu0] at h00
      have hsp : sp = none := by simpa [Addr.add] using World.cell?_spot h00
      subst hsp
      have hb : b < w.heap.size := by have := cell_lt h00; simpa [Addr.add] using this
      refine ⟨b, off, rfl, hb, fun i u hu => ?_⟩
      have hi : i < len * k := by
        rcases Nat.lt_or_ge i (len * k) with h | h
        · exact h
        · rw [List.getElem?_eq_none (by rw [rows_len hk]; simpa using h)] at hu; cases hu
      have hq1 : i / k < len := Nat.div_lt_of_lt_mul (by rw [Nat.mul_comm]; exact hi)
      have hr1 : i % k < k := Nat.mod_lt _ hk0
      have hgt := rows_get hk ((List.range len).map g) (i / k) (g (i / k)) (i % k) (by simp [hq1]) hr1
      have he : i / k * k + i % k = i := by rw [Nat.mul_comm]; exact Nat.div_add_mod i k
      rw [he, hu] at hgt
      have hc1 := (hg (i / k) hq1).1 (i % k) hr1
      rw [Go.Deep.add_add, Go.WideShapes.add_plain, he] at hc1
      rw [hc1, ← hgt]
    · simp at hx'
      obtain ⟨i, hi, rfl⟩ := hx'
      exact (hg i hi).2
end
end Go.Proofs.YtgjeejdebneoaaaDoor
/- Acts (RouteHolds) that come in. -/
namespace Go.Proofs.YtgjeejdebneoaaaDoor
set_option linter.unusedVariables false
set_option linter.unusedSimpArgs false
open Go.RowKit Go.ChangeShapes Go.WideShapes Go.Joins Go.Deep
set_option maxRecDepth 100000
instance : Inhabited Ac11 := ⟨⟨0, 0, 0, 0, 0⟩⟩
section
variable {H : Type} {enc : TypeId × Value → H} {w : World} {base : Nat} {spare : Nat → Bool} {held : Bool} {r : Reach} {b0 : Nat} {v : Value} {d : DataW H} {p : List MemPlace}
theorem trod_act11 {fuel : Nat} {cs : List Value} {y : DataW H × List MemPlace} (hlen : cs.length = 5) (hf : DataW.trod enc Tryd.prog w base spare held fuel 64 cs = some y) : ∃ x : Ac11, cs = acL11 x ∧ x.hx < 4294967296 := by
  match cs, hlen with
  | [c0, c1, c2, c3, c4], _ =>
    obtain ⟨ys, n, _, _, _, hlen, hg⟩ := DataW.trod_struct Tryd.underlying64 hf
    have qi : Tryd.prog.cellsOf 3 = 1 := by kernel_rfl
    have qh : Tryd.prog.cellsOf 33 = 3 := by kernel_rfl
    have q6 : Tryd.prog.cellsOf 2 = 1 := by kernel_rfl
    have qa : Tryd.prog.cellsOf 26 = 1 := by kernel_rfl
    match ys, hlen with
    | [y0, y1, y2], _ =>
      have h0 := hg 0 _ rfl
      have h1 := hg 1 _ rfl
      have h2 := hg 2 _ rfl
      simp [qi, qh, q6] at h0 h1 h2
      obtain ⟨ys', n', _, _, _, hlen', hg'⟩ := DataW.trod_struct Tryd.underlying33 h1
      match ys', hlen' with
      | [x0, x1, x2], _ =>
        have g0 := hg' 0 _ rfl
        have g1 := hg' 1 _ rfl
        have g2 := hg' 2 _ rfl
        simp [qi, qa] at g0 g1 g2
        obtain ⟨z0, rfl, _⟩ := one_int Tryd.underlying3 h0
        obtain ⟨z1, rfl, _⟩ := one_int Tryd.underlying3 g0
        obtain ⟨z2, rfl, k2⟩ := one_int Tryd.underlying26 g1
        obtain ⟨z3, rfl, _⟩ := one_int Tryd.underlying3 g2
        obtain ⟨z4, rfl, _⟩ := one_int Tryd.underlying2 h2
        have b2 := bounds_u32 k2
        obtain ⟨x, rfl⟩ := Int.eq_ofNat_of_zero_le b2.1
        exact ⟨⟨z0, z1, x, z3, z4⟩, rfl, by show x < _; omega⟩
theorem open_acts11 (hv : Value.okWide Tryd.prog w r b0 62 v) (h : DataW.Trod enc Tryd.prog w base spare held 62 v d p) :
    ∃ A cap, ∃ l : List Ac11, v = .slice A l.length cap ∧ l.length ≤ cap ∧ cap ≤ maxLen ∧ Rd w w.heap.size A (l.flatMap acL11) ∧ ∀ x ∈ l, x.hx < 4294967296 := by
  obtain ⟨a, len, cap, rfl⟩ := okWide_slice Tryd.underlying62 hv
  obtain ⟨fuel, hf⟩ := h
  exact open_recs acL11 5 acL11_len (by omega) (fun x => x.hx < 4294967296) Tryd.underlying62 (by kernel_rfl) (fun n cs y hl hc => trod_act11 hl hc) (by simpa [Value.cells] using hf)
end
end Go.Proofs.YtgjeejdebneoaaaDoor
