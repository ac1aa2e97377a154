/- flight: clone, join, cut. -/
import Derived.Test.YtgdkobknjgbdbaaFl2
import Derived.Deep.AppendLies
namespace Go.Proofs.Ytgdkobknjgbdbaa
set_option linter.unusedVariables false
set_option linter.unusedSimpArgs false
open Go.RowKit
set_option maxRecDepth 100000

set_option maxHeartbeats 400000 in
theorem uclone_any (l : List Ml) (n : Nat) (hn : l.length = n) (A : Option Addr) (c B : Nat) (w : World) (h : Rd w B A (mlC l)) (hl : n ≤ 1048576) (hB : B ≤ w.heap.size) :
    Calls Try.prog 38 #[.slice A n c] w fun e w' => ∃ v1, e = .returned v1 ∧ w'.ownsRow w.heap.size 72 6 v1 n (mlC l) ∧ Below w.heap.size w w' := by
  obtain ⟨i0, hi0, hz0, hz1, hz2⟩ := info_parts under_info
  have HN := Lib.hid hn
  clear hn
  have hnil := fun w => Lib.run_eql_slice_nil (P := Try.prog) w 67 72 A n c 0 0 Try.underlying67
  cases A with
  | none =>
    have h0 : l = [] := by
      rcases Nat.eq_zero_or_pos (mlC l).length with h0 | h0
      · rw [mlC_len] at h0; exact List.eq_nil_of_length_eq_zero (by omega)
      · obtain ⟨_, _, hA, _⟩ := h h0; cases hA
    subst h0
    have hn0 := HN.out
    simp at hn0
    subst hn0
    go_enter Try.func38, Try.ntmps38
    go_wp2
    go_ret
    exact ⟨_, rfl, World.ownsRow_nil _ _ _ _, Below.refl _ _⟩
  | some a =>
    go_enter Try.func38, Try.ntmps38
    go_wp2_with (at_builtin; refine wpList_append_rd rfl (.tmp 5) (.tmp 6) _ rfl w.heap.size 72 i0 _ 6 64 Try.underlying67 hi0 hz0 hz1 hz2 rfl (by omega) (.slice (some ⟨w.heap.size, 0, none⟩) 0 0) 0 [] rfl (World.ownsRow_lit w #[] 0 (Nat.le_refl _) (by simp [maxLen]) (by simp)) n c (mlC l) rfl (by rw [mlC_len, HN.out]) (h.alloc hB _) (mlC_one l) (by simp only [maxLen]; omega) (by omega) (by simp) ?_; intro v1 w1 ho1 hg1 ha1)
    go_ret
    simp only [Nat.zero_add, List.nil_append] at ho1
    exact ⟨_, rfl, ho1, ((Below.refl _ _).alloc (Nat.le_refl _) _).grown hg1 (by simp) (by simp [Value.ownBlock])⟩

set_option maxHeartbeats 1000000 in
theorem join_any (l1 l2 : List Ml) (n1 n2 k1 k2 g B : Nat) (h1 : l1.length = n1) (h2 : l2.length = n2) (A1 A2 : Option Addr) (w : World) (hr1 : Rd w B A1 (mlC l1)) (hr2 : Rd w B A2 (mlC l2)) (hB : B ≤ w.heap.size) (hn1 : n1 ≤ 100000) (hn2 : n2 ≤ 100000)
    (c0 : w.cell? ⟨g, 0, none⟩ = some (.slice A1 n1 k1)) (c1 : w.cell? ⟨g, 1, none⟩ = some (.slice A2 n2 k2)) :
    Calls Try.prog 49 #[.slice (some ⟨g, 0, none⟩) 2 2] w fun e w' => ∃ v1, e = .returned v1 ∧ w'.ownsRow w.heap.size 72 6 v1 (n1 + n2) (mlC l1 ++ mlC l2) ∧ Below w.heap.size w w' := by
  obtain ⟨i0, hi0, hz0, hz1, hz2⟩ := info_parts under_info
  have H1 := Lib.hid h1
  have H2 := Lib.hid h2
  have HC1 := Lib.hid c1
  have l2' := cell_lt c1
  have HR2 := Lib.hid hr2
  clear h1 h2 c1 hr2
  go_enter Try.func49, Try.ntmps49
  go_wp2_with fail
  refine wp_loop_rounds 3 ?_
  rw [rounds_succ]
  go_wp2_with (at_builtin; refine wpList_append_rd rfl (.tmp 12) (.tmp 13) _ rfl w.heap.size 72 i0 _ 6 64 Try.underlying67 hi0 hz0 hz1 hz2 rfl (by omega) (.slice none 0 0) 0 [] rfl (World.ownsRow_nil _ _ _ _) n1 k1 (mlC l1) rfl (by rw [mlC_len, H1.out]) hr1 (mlC_one l1) (by simp only [maxLen]; omega) (by omega) (by simp) ?_; intro v1 w1 ho1 hg1 ha1)
  simp only [Nat.zero_add, List.nil_append] at ho1
  have b1 : Below w.heap.size w w1 := (Below.refl w.heap.size w).grown hg1 (Nat.le_refl _) (by simp [Value.ownBlock])
  have c1 := (b1.cell (p := ⟨g, 1, none⟩) l2').trans HC1.out
  have hs1 := b1.size
  rw [rounds_succ]
  go_wp2_with (at_builtin; refine wpList_append_rd rfl (.tmp 12) (.tmp 13) _ rfl w.heap.size 72 i0 _ 6 64 Try.underlying67 hi0 hz0 hz1 hz2 rfl (by omega) v1 n1 (mlC l1) rfl ho1 n2 k2 (mlC l2) rfl (by rw [mlC_len, H2.out]) (HR2.out.below (b1.mono hB)) (mlC_one l2) (by simp only [maxLen]; omega) (by omega) (by omega) ?_; intro v2 w2 ho2 hg2 ha2)
  have b2 : Below w.heap.size w w2 := b1.grown hg2 b1.size (fun k e => own_base' ho1 k e)
  rw [rounds_succ]
  go_wp2_with fail
  go_ret
  exact ⟨_, rfl, ho2, b2⟩
end Go.Proofs.Ytgdkobknjgbdbaa
