/- config: Clone, Standard, Owns. -/
import Derived.Test.YtlgkjboamfgbeaaDoorCfg7
namespace Go.Proofs.YtlgkjboamfgbeaaDoor
set_option linter.unusedVariables false
set_option linter.unusedSimpArgs false
open Go.RowKit
set_option maxRecDepth 100000

theorem pfx_info : (Tryd.prog.info? 91).map (fun i => (i.zero, i.size, i.bytes)) = some (some (.agg #[.int .u32 0, .int .i64 0]), 2, 16) := by kernel_rfl
theorem own_row {w : World} {base : Nat} {e : TypeId} {size n : Nat} {v : Value} {xs : List Value} (h : w.ownsRow base e size v n xs) :
    ∃ A c, v = .slice A n c ∧ n ≤ c ∧ c ≤ maxLen ∧ Rd w w.heap.size A xs ∧ (∀ a, A = some a → base ≤ a.block) := by
  rcases h.2 with ⟨rfl, h0⟩ | ⟨g, cap, cur, rfl, hg, _, hc, hm, _⟩
  · have hx := h.1
    rw [h0] at hx
    obtain rfl : xs = [] := List.eq_nil_of_length_eq_zero (by omega)
    exact ⟨none, 0, by rw [h0], by omega, by simp [maxLen], Rd.nil, by simp⟩
  · exact ⟨_, _, rfl, hc, hm, Rd.of_own h, by simp; exact hg⟩

set_option maxHeartbeats 400000 in
theorem pclone_any (l : List (Nat × Int)) (n : Nat) (hn : l.length = n) (A : Option Addr) (c B : Nat) (w : World) (h : Rd w B A (plC l)) (hl : n ≤ 1048576) (hB : B ≤ w.heap.size) :
    Calls Tryd.prog 56 #[.slice A n c] w fun e w' => ∃ A1 c1, e = .returned (.slice A1 n c1) ∧ n ≤ c1 ∧ c1 ≤ maxLen ∧ Rd w' w'.heap.size A1 (plC l) ∧ Below w.heap.size w w' ∧ (∀ a, A1 = some a → w.heap.size ≤ a.block) := by
  obtain ⟨i0, hi0, hz0, hz1, hz2⟩ := info_parts pfx_info
  have HN := Lib.hid hn
  clear hn
  have hnil := fun w => Lib.run_eql_slice_nil (P := Tryd.prog) w 22 91 A n c 0 0 Tryd.underlying22
  cases A with
  | none =>
    have h0 : l = [] := by
      rcases Nat.eq_zero_or_pos (plC l).length with h0 | h0
      · rw [plC_len] at h0; exact List.eq_nil_of_length_eq_zero (by omega)
      · obtain ⟨_, _, hA, _⟩ := h h0; cases hA
    subst h0
    have hn0 := HN.out
    simp at hn0
    subst hn0
    go_enter Tryd.func56, Tryd.ntmps56
    go_wp2
    go_ret
    exact ⟨none, 0, rfl, by simp, by simp, Rd.nil, Below.refl _ _, by simp⟩
  | some a =>
    go_enter Tryd.func56, Tryd.ntmps56
    go_wp2_with (at_builtin; refine wpList_append_rd rfl (.tmp 5) (.tmp 6) _ rfl w.heap.size 91 i0 _ 2 16 Tryd.underlying22 hi0 hz0 hz1 hz2 rfl (by omega) (.slice (some ⟨w.heap.size, 0, none⟩) 0 0) 0 [] rfl (World.ownsRow_lit w #[] 0 (Nat.le_refl _) (by simp [maxLen]) (by simp)) n c (plC l) rfl (by rw [plC_len, HN.out]) (h.alloc hB _) (plC_one l) (by simp only [maxLen]; omega) (by omega) (by simp) ?_; intro v1 w1 ho1 hg1 ha1)
    go_ret
    simp only [Nat.zero_add, List.nil_append] at ho1
    obtain ⟨A1, c1, rfl, h1, h2, h3, h4⟩ := own_row ho1
    exact ⟨A1, c1, rfl, h1, h2, h3, ((Below.refl _ _).alloc (Nat.le_refl _) _).grown hg1 (by simp) (by simp [Value.ownBlock]), h4⟩

theorem Rd.off {w : World} {B : Nat} {A : Option Addr} {xs : List Value} (h : Rd w B A xs) {g i : Nat} (hp : ∀ a, A = some a → g ≠ a.block) (u : Value) : Rd (w.setCell ⟨g, i, none⟩ u) B A xs := fun h0 => by
  obtain ⟨b, off, e, hb, hc⟩ := h h0
  exact ⟨b, off, e, hb, fun i v hv => (World.cell?_setCell_far w ⟨g, _, none⟩ ⟨b, off + i, none⟩ u (hp ⟨b, off, none⟩ e)).trans (hc i v hv)⟩

end Go.Proofs.YtlgkjboamfgbeaaDoor
