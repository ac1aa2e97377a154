/- More plain words on worlds. -/
import Derived.Test.YtgjeejdebneoaaaDoorBase
namespace Go.Proofs.YtgjeejdebneoaaaDoor
set_option linter.unusedVariables false
set_option linter.unusedSimpArgs false
open Go.RowKit
theorem own_below {w w' : World} {base : Nat} {e : TypeId} {size n : Nat} {v : Value} {xs : List Value} (h : w.ownsRow base e size v n xs) (hb : Below w.heap.size w w') : w'.ownsRow base e size v n xs :=
  h.kept (row := none) ⟨hb.os, hb.tape, hb.output, hb.size, fun k hk _ => hb.block k hk⟩ (by cases h : v.ownBlock <;> simp)
theorem below_only {w w' : World} {g : Nat} (h : Below w.heap.size w w') : w.grownBy w' (some g) := ⟨h.os, h.tape, h.output, h.size, fun k hk _ => h.block k hk⟩
open Go.ChangeShapes Go.WideShapes in
/-- an argument that is a slice of integers -/
theorem open_row {H : Type} {enc : TypeId × Value → H} {P : Program} {w : World} {base b0 : Nat} {spare : Nat → Bool} {held : Bool} {r : Reach} {t e : TypeId} {k : IntKind} {v : Value} {d : DataW H} {p : List MemPlace}
    (ht : P.underlying t = some (.slice e)) (he : P.underlying e = some (.int k)) (hce : P.cellsOf e = 1)
    (hv : Value.okWide P w r b0 t v) (h : DataW.Trod enc P w base spare held t v d p) :
    ∃ A c, ∃ zs : List Int, v = .slice A zs.length c ∧ zs.length ≤ c ∧ c ≤ maxLen ∧ Rd w w.heap.size A (zs.map (Value.int k)) ∧ ∀ z ∈ zs, (Lit.int k z).wf = true := by
  obtain ⟨a, len, cap, rfl⟩ := okWide_slice ht hv
  obtain ⟨fuel, hf⟩ := h
  rcases open_ints ht he hce hf with ⟨hcs, _⟩ | ⟨x, l, c, zs, hcs, _, hl, hm, hz, _, hcell, hwz⟩
  · simp [Value.cells] at hcs
    obtain ⟨rfl, rfl, rfl⟩ := hcs
    exact ⟨none, 0, [], rfl, by simp, by simp [maxLen], Rd.nil, by simp⟩
  · simp [Value.cells] at hcs
    obtain ⟨rfl, rfl, rfl⟩ := hcs
    have hlz : len ≤ zs.length := by have : zs.length = _ := hz; split at this <;> omega
    have hlen : (zs.take len).length = len := by simp; omega
    refine ⟨_, cap, zs.take len, by rw [hlen], by omega, hm, fun h0 => ?_, fun z hz => hwz z (List.mem_of_mem_take hz)⟩
    have hpos : 0 < zs.length := by simp at h0; omega
    obtain ⟨b, off, rfl, hc⟩ := ints_at hcell hpos
    have hb := cell_lt (hc 0 hpos)
    refine ⟨b, off, rfl, hb, fun i u hu => ?_⟩
    have hi : i < len := by
      rcases Nat.lt_or_ge i len with h | h
      · exact h
      · rw [List.getElem?_eq_none (by simp; omega)] at hu; cases hu
    rw [hc i (by omega)]
    simp only [List.getElem?_map, List.getElem?_take, if_pos hi, List.getElem?_eq_getElem (show i < zs.length by omega), Option.map_some] at hu
    injection hu with hu
    subst hu
    simp only [List.getD, List.getElem?_eq_getElem (show i < zs.length by omega), Option.getD_some]

/-- a list of numbers that are not below 0, as natural numbers -/
theorem nats_of {zs : List Int} (h : ∀ z ∈ zs, 0 ≤ z) : ∃ ns : List Nat, zs = ns.map (fun n : Nat => (n : Int)) := by
  induction zs with
  | nil => exact ⟨[], rfl⟩
  | cons z zs ih =>
    obtain ⟨ns, rfl⟩ := ih (fun y hy => h y (by simp [hy]))
    exact ⟨z.toNat :: ns, by have := h z (by simp); simp; omega⟩
open Go.ChangeShapes Go.WideShapes in
/-- an argument that is a slice of uint32 -/
theorem open_u32s {H : Type} {enc : TypeId × Value → H} {P : Program} {w : World} {base b0 : Nat} {spare : Nat → Bool} {held : Bool} {r : Reach} {t e : TypeId} {v : Value} {d : DataW H} {p : List MemPlace}
    (ht : P.underlying t = some (.slice e)) (he : P.underlying e = some (.int .u32)) (hce : P.cellsOf e = 1)
    (hv : Value.okWide P w r b0 t v) (h : DataW.Trod enc P w base spare held t v d p) :
    ∃ A c, ∃ ns : List Nat, v = .slice A ns.length c ∧ ns.length ≤ c ∧ c ≤ maxLen ∧ Rd w w.heap.size A (ns.map (fun n : Nat => Value.int .u32 (n : Int))) ∧ ∀ n ∈ ns, n < 4294967296 := by
  obtain ⟨A, c, zs, rfl, h1, h2, h3, h4⟩ := open_row ht he hce hv h
  obtain ⟨ns, rfl⟩ := nats_of (zs := zs) (fun z hz => (bounds_u32 (h4 z hz)).1)
  refine ⟨A, c, ns, by simp, by simpa using h1, h2, by simpa [Function.comp_def] using h3, fun n hn => ?_⟩
  have := bounds_u32 (h4 n (List.mem_map.2 ⟨n, hn, rfl⟩))
  omega
end Go.Proofs.YtgjeejdebneoaaaDoor
