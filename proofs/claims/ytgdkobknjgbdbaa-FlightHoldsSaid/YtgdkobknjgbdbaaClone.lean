/- bytes.Clone. -/
import Derived.Test.YtgdkobknjgbdbaaBase2
import Derived.Test.YtgdkobknjgbdbaaProg
namespace Go.Proofs.Ytgdkobknjgbdbaa
set_option linter.unusedVariables false
set_option linter.unusedSimpArgs false
open Go.RowKit

theorem u8_info : (Try.prog.info? 5).map (fun i => (i.zero, i.size, i.bytes)) = some (some (.int .u8 0), 1, 1) := by kernel_rfl

/-- a slice of bytes is handed back in memory of the call's own -/
def GivesS (l : List UInt8) (w : World) (e : Ending) (w' : World) : Prop :=
  ∃ A c, e = .returned (.slice A l.length c) ∧ l.length ≤ c ∧ c ≤ maxLen ∧ Rd w' w'.heap.size A (l.map b8) ∧ Below w.heap.size w w' ∧ (∀ a, A = some a → w.heap.size ≤ a.block)

/-- what is owned reads as a list, and lies in memory of the call's own -/
theorem own_gives {w w1 : World} {e : TypeId} {v : Value} {l : List UInt8} {n : Nat} (hn : l.length = n) (h : w1.ownsRow w.heap.size e 1 v n (l.map b8)) (hb : Below w.heap.size w w1) : GivesS l w (.returned v) w1 := by
  subst hn
  rcases h.2 with ⟨rfl, h0⟩ | ⟨g, cap, cur, rfl, hg, _, hc, hm, _⟩
  · obtain rfl : l = [] := List.eq_nil_of_length_eq_zero (by omega)
    exact ⟨none, 0, rfl, by simp, by simp [maxLen], Rd.nil, hb, by simp⟩
  · exact ⟨_, _, rfl, hc, hm, Rd.of_own h, hb, by simp; exact hg⟩

set_option maxHeartbeats 400000 in
theorem clone_any (l : List UInt8) (n : Nat) (hn : l.length = n) (A : Option Addr) (c B : Nat) (w : World) (h : Rd w B A (l.map b8)) (hl : n ≤ 1048576) (hB : B ≤ w.heap.size) :
    Calls Try.prog 48 #[.slice A n c] w (GivesS l w) := by
  obtain ⟨i0, hi0, hz0, hz1, hz2⟩ := info_parts u8_info
  have HN := Lib.hid hn
  clear hn
  have hnil := fun w => Lib.run_eql_slice_nil (P := Try.prog) w 31 5 A n c 0 0 Try.underlying31
  cases A with
  | none =>
    have h0 : l = [] := by
      rcases Nat.eq_zero_or_pos (l.map b8).length with h0 | h0
      · exact List.eq_nil_of_length_eq_zero (by simpa using h0)
      · obtain ⟨_, _, hA, _⟩ := h h0; cases hA
    subst h0
    go_enter Try.func48, Try.ntmps48
    go_wp2
    go_ret
    exact ⟨none, 0, rfl, by simp, by simp, Rd.nil, Below.refl _ _, by simp⟩
  | some a =>
    go_enter Try.func48, Try.ntmps48
    go_wp2_with (at_builtin; refine wpList_append_rd rfl (.tmp 5) (.tmp 6) _ rfl w.heap.size 5 i0 _ 1 1 Try.underlying31 hi0 hz0 hz1 hz2 rfl (by omega) (.slice (some ⟨w.heap.size, 0, none⟩) 0 0) 0 [] rfl (World.ownsRow_lit w #[] 0 (Nat.le_refl _) (by simp [maxLen]) (by simp)) n c (l.map b8) rfl (by rw [List.length_map, HN.out]; omega) (h.alloc hB _) (b8_one l) (by simp only [maxLen]; omega) (by omega) (by simp) ?_; intro v1 w1 ho1 hg1 ha1)
    go_ret
    refine own_gives HN.out (by simpa using ho1) (((Below.refl _ _).alloc (Nat.le_refl _) _).grown hg1 (by simp) (by simp [Value.ownBlock]))

end Go.Proofs.Ytgdkobknjgbdbaa
