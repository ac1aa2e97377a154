/- config: Clone, Standard, Owns. -/
import Derived.Test.YtgjeejdebneoaaaDoorCfg7
namespace Go.Proofs.YtgjeejdebneoaaaDoor
set_option linter.unusedVariables false
set_option linter.unusedSimpArgs false
open Go.RowKit
set_option maxRecDepth 100000

theorem pfx_info : (Tryd.prog.info? 28).map (fun i => (i.zero, i.size, i.bytes)) = some (some (.agg #[.int .u32 0, .int .i64 0]), 2, 16) := by kernel_rfl
theorem own_row {w : World} {base : Nat} {e : TypeId} {size n : Nat} {v : Value} {xs : List Value} (h : w.ownsRow base e size v n xs) :
    ∃ A c, v = .slice A n c ∧ n ≤ c ∧ c ≤ maxLen ∧ Rd w w.heap.size A xs ∧ (∀ a, A = some a → base ≤ a.block) := by
  rcases h.2 with ⟨rfl, h0⟩ | ⟨g, cap, cur, rfl, hg, _, hc, hm, _⟩
  · have hx := h.1
    rw [h0] at hx
    obtain rfl : xs = [] := List.eq_nil_of_length_eq_zero (by omega)
    exact ⟨none, 0, by rw [h0], by omega, by simp [maxLen], Rd.nil, by simp⟩
  · exact ⟨_, _, rfl, hc, hm, Rd.of_own h, by simp; exact hg⟩

theorem Rd.off {w : World} {B : Nat} {A : Option Addr} {xs : List Value} (h : Rd w B A xs) {g i : Nat} (hp : ∀ a, A = some a → g ≠ a.block) (u : Value) : Rd (w.setCell ⟨g, i, none⟩ u) B A xs := fun h0 => by
  obtain ⟨b, off, e, hb, hc⟩ := h h0
  exact ⟨b, off, e, hb, fun i v hv => (World.cell?_setCell_far w ⟨g, _, none⟩ ⟨b, off + i, none⟩ u (hp ⟨b, off, none⟩ e)).trans (hc i v hv)⟩

end Go.Proofs.YtgjeejdebneoaaaDoor
