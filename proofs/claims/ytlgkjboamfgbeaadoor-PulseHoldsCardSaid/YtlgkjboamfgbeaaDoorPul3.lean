/- pulse: tell, change, tick. -/
import Derived.Test.YtlgkjboamfgbeaaDoorPul2
namespace Go.Proofs.YtlgkjboamfgbeaaDoor
set_option linter.unusedVariables false
set_option linter.unusedSimpArgs false
open Go.RowKit
set_option maxRecDepth 100000

theorem only_set {w w' : World} {b i : Nat} {u : Value} (h : w.grownBy w' (some b)) : w.grownBy (w'.setCell ⟨b, i, none⟩ u) (some b) :=
  ⟨h.os, h.tape, h.output, by simpa using h.size, fun k hk hne => (Below.heap_setCell w' ⟨b, i, none⟩ u k (fun e => hne (by rw [e]))).trans (h.block k hk hne)⟩
theorem only_refl (w : World) (b : Nat) : w.grownBy w (some b) := ⟨rfl, rfl, rfl, Nat.le_refl _, fun _ _ _ => rfl⟩
theorem only_drewN {w w' : World} {b : Nat} (h : w.grownBy w' (some b)) (n : Nat) : w.grownBy (w'.drewN n) (some b) := ⟨h.os, h.tape, h.output, h.size, h.block⟩
theorem only_of_drewN {w w' : World} {b n : Nat} (h : (w.drewN n).grownBy w' (some b)) : w.grownBy w' (some b) := ⟨h.os, h.tape, h.output, h.size, h.block⟩

section
variable (b : Nat) (p j t h g q s cp : Int) (A : Option Addr) (n k B : Nat) (l : List (Nat × Int)) (hn : l.length = n) (du un nw dr : Int) (wt : Bool) (w : World) (hb : Blk w b 58 #[.int .i64 du, .int .i64 un, .bool wt, .int .i64 p, .int .i64 j, .int .i64 t, .int .i64 h, .int .i64 g, .int .i64 q, .int .i64 s, .int .i64 cp, .slice A n k, .int .i64 nw, .int .i64 dr]) (hr : Rd w B A (plC l)) (hB : B ≤ w.heap.size) (hnk : n ≤ k) (hk : k ≤ 9223372036854775807) (hl : ∀ x ∈ l, x.1 < 4294967296) (hw : CapsAt w) (hok : okC p j t h g q s cp l = true) (hnw : okN nw = true)
include hn hb hr hB hnk hk hl hw hok hnw

set_option maxHeartbeats 1000000 in
theorem behindW_any :
    Calls Tryd.prog 25 #[.pointer (some ⟨b, 0, none⟩), .func (.func 26) #[] #[]] w fun e w' => e = .returned (.int .i64 (nw + (p + max 0 (min dr j)))) ∧ Below w.heap.size w w' := by
  have hbd := okC_bounds hok
  have hN : 0 ≤ nw ∧ nw ≤ 4611686018425387904 := of_decide_eq_true hnw
  have HC := Lib.hid (fun v : Sub w => cwait_any p j t h g q s cp dr A n k B l hn v.1 (hr.below (v.2.mono hB)) (by have := v.2.size; omega) hnk hk hl (hw.below v.2))
  rw [hok] at HC
  simp only [waitC, errC, if_true] at HC
  have h1 : 0 ≤ p + max 0 (min dr j) ∧ p + max 0 (min dr j) ≤ 2000000 := by omega
  have c0 := fun v : Sub w => ((hb).below v.2 (hb).lt).cell 0
  have c1 := fun v : Sub w => ((hb).below v.2 (hb).lt).cell 1
  have c2 := fun v : Sub w => ((hb).below v.2 (hb).lt).cell 2
  have c3 := fun v : Sub w => ((hb).below v.2 (hb).lt).cell 3
  have c4 := fun v : Sub w => ((hb).below v.2 (hb).lt).cell 4
  have c5 := fun v : Sub w => ((hb).below v.2 (hb).lt).cell 5
  have c6 := fun v : Sub w => ((hb).below v.2 (hb).lt).cell 6
  have c7 := fun v : Sub w => ((hb).below v.2 (hb).lt).cell 7
  have c8 := fun v : Sub w => ((hb).below v.2 (hb).lt).cell 8
  have c9 := fun v : Sub w => ((hb).below v.2 (hb).lt).cell 9
  have c10 := fun v : Sub w => ((hb).below v.2 (hb).lt).cell 10
  have c11 := fun v : Sub w => ((hb).below v.2 (hb).lt).cell 11
  have c12 := fun v : Sub w => ((hb).below v.2 (hb).lt).cell 12
  have c13 := fun v : Sub w => ((hb).below v.2 (hb).lt).cell 13
  simp only [List.getElem?_toArray, List.getElem?_cons_zero, List.getElem?_cons_succ] at c0 c1 c2 c3 c4 c5 c6 c7 c8 c9 c10 c11 c12 c13
  have hne : Nonempty (Sub w) := ⟨⟨_, Below.refl _ _⟩⟩
  clear hr hl hw hb hok hnw hbd
  generalize p + max 0 (min dr j) = y at *
  go_enter Tryd.func25, Tryd.ntmps25
  go_wp2_with fail
  refine region_sub (by kernel_rfl) (by kernel_rfl) ?_
  repeat (first | go_big_quiet_step (((go_at_call 26; exact sub_below (HC.out _)))) | quiet_step (((go_at_call 26; exact sub_below (HC.out _)))))
  refine wpQuiet_nil ?_
  rintro _ ⟨v, rfl⟩
  have c12' := c12 v
  clear c0 c1 c2 c3 c4 c5 c6 c7 c8 c9 c10 c11 c12 c13
  go_wp2_with fail
  go_ret
  exact ⟨rfl, v.2⟩

set_option maxHeartbeats 1000000 in
theorem behindQ_any :
    Calls Tryd.prog 25 #[.pointer (some ⟨b, 0, none⟩), .func (.func 62) #[] #[]] w fun e w' => e = .returned (.int .i64 (nw + (q + max 0 (min dr s)))) ∧ Below w.heap.size w w' := by
  have hbd := okC_bounds hok
  have hN : 0 ≤ nw ∧ nw ≤ 4611686018425387904 := of_decide_eq_true hnw
  have HC := Lib.hid (fun v : Sub w => cquiet_any p j t h g q s cp dr A n k B l hn v.1 (hr.below (v.2.mono hB)) (by have := v.2.size; omega) hnk hk hl (hw.below v.2))
  rw [hok] at HC
  simp only [waitC, errC, if_true] at HC
  have h1 : 0 ≤ q + max 0 (min dr s) ∧ q + max 0 (min dr s) ≤ 2000000 := by omega
  have c0 := fun v : Sub w => ((hb).below v.2 (hb).lt).cell 0
  have c1 := fun v : Sub w => ((hb).below v.2 (hb).lt).cell 1
  have c2 := fun v : Sub w => ((hb).below v.2 (hb).lt).cell 2
  have c3 := fun v : Sub w => ((hb).below v.2 (hb).lt).cell 3
  have c4 := fun v : Sub w => ((hb).below v.2 (hb).lt).cell 4
  have c5 := fun v : Sub w => ((hb).below v.2 (hb).lt).cell 5
  have c6 := fun v : Sub w => ((hb).below v.2 (hb).lt).cell 6
  have c7 := fun v : Sub w => ((hb).below v.2 (hb).lt).cell 7
  have c8 := fun v : Sub w => ((hb).below v.2 (hb).lt).cell 8
  have c9 := fun v : Sub w => ((hb).below v.2 (hb).lt).cell 9
  have c10 := fun v : Sub w => ((hb).below v.2 (hb).lt).cell 10
  have c11 := fun v : Sub w => ((hb).below v.2 (hb).lt).cell 11
  have c12 := fun v : Sub w => ((hb).below v.2 (hb).lt).cell 12
  have c13 := fun v : Sub w => ((hb).below v.2 (hb).lt).cell 13
  simp only [List.getElem?_toArray, List.getElem?_cons_zero, List.getElem?_cons_succ] at c0 c1 c2 c3 c4 c5 c6 c7 c8 c9 c10 c11 c12 c13
  have hne : Nonempty (Sub w) := ⟨⟨_, Below.refl _ _⟩⟩
  clear hr hl hw hb hok hnw hbd
  generalize q + max 0 (min dr s) = y at *
  go_enter Tryd.func25, Tryd.ntmps25
  go_wp2_with fail
  refine region_sub (by kernel_rfl) (by kernel_rfl) ?_
  repeat (first | go_big_quiet_step (((go_at_call 62; exact sub_below (HC.out _)))) | quiet_step (((go_at_call 62; exact sub_below (HC.out _)))))
  refine wpQuiet_nil ?_
  rintro _ ⟨v, rfl⟩
  have c12' := c12 v
  clear c0 c1 c2 c3 c4 c5 c6 c7 c8 c9 c10 c11 c12 c13
  go_wp2_with fail
  go_ret
  exact ⟨rfl, v.2⟩

set_option maxHeartbeats 1000000 in
theorem tellA_any :
    Calls Tryd.prog 53 #[.pointer (some ⟨b, 0, none⟩), .int .i64 2] w fun e w' => e = .returned (.int .i64 2) ∧ Blk w' b 58 #[.int .i64 (nw + (p + max 0 (min dr j))), .int .i64 un, .bool false, .int .i64 p, .int .i64 j, .int .i64 t, .int .i64 h, .int .i64 g, .int .i64 q, .int .i64 s, .int .i64 cp, .slice A n k, .int .i64 nw, .int .i64 dr] ∧ w.grownBy w' (some b) := by
  have HC := Lib.hid (behindW_any b p j t h g q s cp A n k B l hn du un nw dr wt w hb hr hB hnk hk hl hw hok hnw)
  have HB := Lib.hid hb
  clear hr hl hw hb hok hnw
  generalize nw + (p + max 0 (min dr j)) = y at *
  go_enter Tryd.func53, Tryd.ntmps53
  go_wp2_with fail
  refine HC.out.mono ?_
  rintro e w1 ⟨rfl, b1⟩
  have y1 := HB.out.below b1 HB.out.lt
  have c0 := y1.cell 0
  have f0 := y1.frozen 0
  have c2 := y1.cell 2
  have f2 := y1.frozen 2
  simp only [List.getElem?_toArray, List.getElem?_cons_zero, List.getElem?_cons_succ] at c0 c2
  have z := (y1.set 0 (.int .i64 y)).set 2 (.bool false)
  simp only [List.setIfInBounds_toArray, List.set_cons_zero, List.set_cons_succ] at z
  have HZ := Lib.hid (And.intro z (only_set (i := 2) (u := .bool false) (only_set (i := 0) (u := .int .i64 y) (below_only (g := b) b1))))
  clear z y1 b1
  go_wp2_with fail
  go_ret
  exact ⟨rfl, HZ.out.1, HZ.out.2⟩

set_option maxHeartbeats 1000000 in
theorem tellC_any :
    Calls Tryd.prog 53 #[.pointer (some ⟨b, 0, none⟩), .int .i64 1] w fun e w' => e = .returned (.int .i64 1) ∧ Blk w' b 58 #[.int .i64 du, .int .i64 (nw + (q + max 0 (min dr s))), .bool false, .int .i64 p, .int .i64 j, .int .i64 t, .int .i64 h, .int .i64 g, .int .i64 q, .int .i64 s, .int .i64 cp, .slice A n k, .int .i64 nw, .int .i64 dr] ∧ w.grownBy w' (some b) := by
  have HC := Lib.hid (behindQ_any b p j t h g q s cp A n k B l hn du un nw dr wt w hb hr hB hnk hk hl hw hok hnw)
  have HB := Lib.hid hb
  clear hr hl hw hb hok hnw
  generalize nw + (q + max 0 (min dr s)) = y at *
  go_enter Tryd.func53, Tryd.ntmps53
  go_wp2_with fail
  refine HC.out.mono ?_
  rintro e w1 ⟨rfl, b1⟩
  have y1 := HB.out.below b1 HB.out.lt
  have c0 := y1.cell 1
  have f0 := y1.frozen 1
  have c2 := y1.cell 2
  have f2 := y1.frozen 2
  simp only [List.getElem?_toArray, List.getElem?_cons_zero, List.getElem?_cons_succ] at c0 c2
  have z := (y1.set 1 (.int .i64 y)).set 2 (.bool false)
  simp only [List.setIfInBounds_toArray, List.set_cons_zero, List.set_cons_succ] at z
  have HZ := Lib.hid (And.intro z (only_set (i := 2) (u := .bool false) (only_set (i := 1) (u := .int .i64 y) (below_only (g := b) b1))))
  clear z y1 b1
  go_wp2_with fail
  go_ret
  exact ⟨rfl, HZ.out.1, HZ.out.2⟩
end
end Go.Proofs.YtlgkjboamfgbeaaDoor
