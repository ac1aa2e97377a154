/- An argument that is a slice of records, opened at every record. -/
import Derived.Test.YtlanfceilajifaaGreatDoorMD
import Derived.Deep.Slices
namespace Go.Proofs.YtlanfceilajifaaGreatDoor
set_option linter.unusedVariables false
set_option linter.unusedSimpArgs false
open Go.RowKit Go.ChangeShapes Go.WideShapes Go.Deep
section
variable {H : Type} {enc : TypeId × Value → H} {P : Program} {w : World} {base : Nat} {spare : Nat → Bool} {held : Bool}
theorem open_recs {α : Type} [Inhabited α] (f : α → List Value) (k : Nat) (hk : ∀ x, (f x).length = k) (hk0 : 0 < k) (q : α → Prop) {t e : TypeId} {fuel : Nat} {c : Value} {y : DataW H × List MemPlace} (ht : P.underlying t = some (.slice e)) (hce : P.cellsOf e = k)
    (hq : ∀ (n : Nat) (cs : List Value) (y : DataW H × List MemPlace), cs.length = k → DataW.trod enc P w base spare held n e cs = some y → ∃ x, cs = f x ∧ q x)
    (h : DataW.trod enc P w base spare held fuel t [c] = some y) :
    ∃ A cap, ∃ l : List α, c = .slice A l.length cap ∧ l.length ≤ cap ∧ cap ≤ maxLen ∧ Rd w w.heap.size A (l.flatMap f) ∧ ∀ x ∈ l, q x := by
  rcases open_slice ht h with ⟨hc, _⟩ | ⟨a, len, cap, m, n, D, Pl, hc, _, hl, hm, hmm, _, hx⟩
  · simp at hc
    subst hc
    exact ⟨none, 0, [], rfl, by simp, by simp [maxLen], Rd.nil, by simp⟩
  · simp at hc
    subst hc
    have hlm : len ≤ m := by rw [hmm]; split <;> omega
    have hv : ∀ i, i < len → ∃ x : α, (∀ j, j < k → w.cell? ((a.add (i * k)).add j) = (f x)[j]?) ∧ q x := fun i hi => by
      obtain ⟨cs', h1, h2⟩ := hx i (by omega)
      rw [hce] at h1
      obtain ⟨_, hlen, hcell⟩ := World.cells?_some h1
      obtain ⟨x, rfl, hqx⟩ := hq n cs' _ hlen h2
      exact ⟨x, fun j hj => hcell j hj, hqx⟩
    obtain ⟨g, hg⟩ := choose_lt hv
    refine ⟨some a, cap, (List.range len).map g, by simp, by simpa using hl, hm, fun h0 => ?_, fun x hx' => ?_⟩
    · rw [rows_len hk] at h0
      have hpos : 0 < len := by
        rcases Nat.eq_zero_or_pos len with h | h
        · subst h; simp at h0
        · exact h
      obtain ⟨b, off, sp⟩ := a
      obtain ⟨u0, hu0⟩ : ∃ u, (f (g 0))[0]? = some u := ⟨_, List.getElem?_eq_getElem (by rw [hk]; exact hk0)⟩
      have h00 := (hg 0 hpos).1 0 hk0
      rw [hu0] at h00
      have hsp : sp = none := by simpa [Addr.add] using World.cell?_spot h00
      subst hsp
      have hb : b < w.heap.size := by have := cell_lt h00; simpa [Addr.add] using this
      refine ⟨b, off, rfl, hb, fun i u hu => ?_⟩
      have hi : i < len * k := by
        rcases Nat.lt_or_ge i (len * k) with h | h
        · exact h
        · rw [List.getElem?_eq_none (by rw [rows_len hk]; simpa using h)] at hu; cases hu
      have hq1 : i / k < len := Nat.div_lt_of_lt_mul (by rw [Nat.mul_comm]; exact hi)
      have hr1 : i % k < k := Nat.mod_lt _ hk0
      have hgt := rows_get hk ((List.range len).map g) (i / k) (g (i / k)) (i % k) (by simp [hq1]) hr1
      have he : i / k * k + i % k = i := by rw [Nat.mul_comm]; exact Nat.div_add_mod i k
      rw [he, hu] at hgt
      have hc1 := (hg (i / k) hq1).1 (i % k) hr1
      rw [Go.Deep.add_add, Go.WideShapes.add_plain, he] at hc1
      rw [hc1, ← hgt]
    · simp at hx'
      obtain ⟨i, hi, rfl⟩ := hx'
      exact (hg i hi).2
end
end Go.Proofs.YtlanfceilajifaaGreatDoor
