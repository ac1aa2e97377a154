/- route: the document's Lose, become, Hear. -/
import Derived.Test.YtgjeejdebneoaaaDoorRo5
namespace Go.Proofs.YtgjeejdebneoaaaDoor
set_option linter.unusedVariables false
set_option linter.unusedSimpArgs false
open Go.RowKit
set_option maxRecDepth 100000

set_option maxHeartbeats 2000000 in
theorem refLose_2 (p j t h g q s cp : Int) (A : Option Addr) (n k : Nat) (a : Nat) (m me lo fa : Int) (nx : Nat) (du : Int) (ch : Bool) (now : Int) (w : World) (hwr : IntKind.i64.wrap (now + h) = now + h) :
    Calls Tryd.prog 26 #[.agg #[.int .i64 p, .int .i64 j, .int .i64 t, .int .i64 h, .int .i64 g, .int .i64 q, .int .i64 s, .int .i64 cp, .slice A n k], .agg #[.int .u32 a, .int .i64 m, .int .i64 2, .int .i64 me, .int .i64 lo, .int .i64 fa, .int .u32 nx, .int .i64 du, .bool ch], .int .i64 now] w fun e w' => (∃ r, r = lostR h ⟨a, m, 2, me, lo, fa, nx, du, ch⟩ now ∧ e = .returned (.agg #[.int .u32 r.a, .int .i64 r.m, .int .i64 r.st, .int .i64 r.me, .int .i64 r.lo, .int .i64 r.fa, .int .u32 r.nx, .int .i64 r.du, .bool r.ch])) ∧ Below w.heap.size w w' := by
  go_enter Tryd.func26, Tryd.ntmps26
  go_wp2_with fail
  go_returns
  exact ⟨⟨_, rfl, rfl⟩, by go_grown⟩
set_option maxHeartbeats 2000000 in
theorem refLose_no (p j t h g q s cp : Int) (A : Option Addr) (n k : Nat) (a : Nat) (m st me lo fa : Int) (nx : Nat) (du : Int) (ch : Bool) (now : Int) (w : World) (hst : (st != 2) = true) :
    Calls Tryd.prog 26 #[.agg #[.int .i64 p, .int .i64 j, .int .i64 t, .int .i64 h, .int .i64 g, .int .i64 q, .int .i64 s, .int .i64 cp, .slice A n k], .agg #[.int .u32 a, .int .i64 m, .int .i64 st, .int .i64 me, .int .i64 lo, .int .i64 fa, .int .u32 nx, .int .i64 du, .bool ch], .int .i64 now] w fun e w' => (∃ r, r = (⟨a, m, st, me, lo, fa, nx, du, ch⟩ : Rt) ∧ e = .returned (.agg #[.int .u32 r.a, .int .i64 r.m, .int .i64 r.st, .int .i64 r.me, .int .i64 r.lo, .int .i64 r.fa, .int .u32 r.nx, .int .i64 r.du, .bool r.ch])) ∧ Below w.heap.size w w' := by
  go_enter Tryd.func26, Tryd.ntmps26
  go_wp2_with fail
  go_returns
  exact ⟨⟨_, rfl, rfl⟩, by go_grown⟩
theorem refLose_any (p j t h g q s cp : Int) (A : Option Addr) (n k : Nat) (a : Nat) (m st me lo fa : Int) (nx : Nat) (du : Int) (ch : Bool) (now : Int) (w : World) (hwr : IntKind.i64.wrap (now + h) = now + h) :
    Calls Tryd.prog 26 #[.agg #[.int .i64 p, .int .i64 j, .int .i64 t, .int .i64 h, .int .i64 g, .int .i64 q, .int .i64 s, .int .i64 cp, .slice A n k], .agg #[.int .u32 a, .int .i64 m, .int .i64 st, .int .i64 me, .int .i64 lo, .int .i64 fa, .int .u32 nx, .int .i64 du, .bool ch], .int .i64 now] w fun e w' => (∃ r, r = loseR h ⟨a, m, st, me, lo, fa, nx, du, ch⟩ now ∧ e = .returned (.agg #[.int .u32 r.a, .int .i64 r.m, .int .i64 r.st, .int .i64 r.me, .int .i64 r.lo, .int .i64 r.fa, .int .u32 r.nx, .int .i64 r.du, .bool r.ch])) ∧ Below w.heap.size w w' := by
  by_cases hs : st = 2
  · subst hs
    exact refLose_2 p j t h g q s cp A n k a m me lo fa nx du ch now w hwr
  · rw [show loseR h ⟨a, m, st, me, lo, fa, nx, du, ch⟩ now = ⟨a, m, st, me, lo, fa, nx, du, ch⟩ from if_neg hs]
    exact refLose_no p j t h g q s cp A n k a m st me lo fa nx du ch now w (by simpa using hs)

set_option maxHeartbeats 2000000 in
theorem become_any (p j t h g q s cp : Int) (A : Option Addr) (n k : Nat) (a : Nat) (m st me lo fa : Int) (nx : Nat) (du : Int) (ch : Bool) (hf : Int) (hx : Nat) (hm x : Int) (now : Int) (w : World) (hwt : IntKind.i64.wrap (now + t) = now + t) :
    Calls Tryd.prog 37 #[.agg #[.int .i64 p, .int .i64 j, .int .i64 t, .int .i64 h, .int .i64 g, .int .i64 q, .int .i64 s, .int .i64 cp, .slice A n k], .agg #[.int .u32 a, .int .i64 m, .int .i64 st, .int .i64 me, .int .i64 lo, .int .i64 fa, .int .u32 nx, .int .i64 du, .bool ch], .agg #[.int .i64 hf, .int .u32 hx, .int .i64 hm], .int .i64 x, .int .i64 now] w fun e w' => (∃ r, r = becR t ⟨a, m, st, me, lo, fa, nx, du, ch⟩ hf hx x now ∧ e = .returned (.agg #[.int .u32 r.a, .int .i64 r.m, .int .i64 r.st, .int .i64 r.me, .int .i64 r.lo, .int .i64 r.fa, .int .u32 r.nx, .int .i64 r.du, .bool r.ch])) ∧ Below w.heap.size w w' := by
  go_enter Tryd.func37, Tryd.ntmps37
  go_wp2_with fail
  go_returns
  exact ⟨⟨_, rfl, rfl⟩, by go_grown⟩

set_option maxHeartbeats 4000000 in
theorem rhear_1 (p j t h g q s cp : Int) (A : Option Addr) (n k : Nat) (a : Nat) (m me lo fa : Int) (nx : Nat) (du : Int) (ch : Bool) (hf : Int) (hx : Nat) (hm : Int) (now : Int) (w : World) (hm1 : 1 ≤ hm) (hm2 : hm ≤ 16) (hwr : IntKind.i64.wrap (now + h) = now + h) (hwt : IntKind.i64.wrap (now + t) = now + t)  :
    Calls Tryd.prog 13 #[.agg #[.int .i64 p, .int .i64 j, .int .i64 t, .int .i64 h, .int .i64 g, .int .i64 q, .int .i64 s, .int .i64 cp, .slice A n k], .agg #[.int .u32 a, .int .i64 m, .int .i64 1, .int .i64 me, .int .i64 lo, .int .i64 fa, .int .u32 nx, .int .i64 du, .bool ch], .agg #[.int .i64 hf, .int .u32 hx, .int .i64 hm], .int .i64 now] w fun e w' => (∃ r, r = (⟨a, m, 1, me, lo, fa, nx, du, ch⟩ : Rt) ∧ e = .returned (.agg #[.int .u32 r.a, .int .i64 r.m, .int .i64 r.st, .int .i64 r.me, .int .i64 r.lo, .int .i64 r.fa, .int .u32 r.nx, .int .i64 r.du, .bool r.ch])) ∧ Below w.heap.size w w' := by
  have hwm : IntKind.i64.wrap (hm + 1) = hm + 1 := IntWalk.i64_in _ ⟨by omega, by omega⟩
  have hmn : min 16 (hm + 1) = min (hm + 1) 16 := Int.min_comm _ _
  have h3 : (fa == hf) = false ∨ ((fa == hf) = true ∧ ((nx : Int) == hx) = false) ∨ ((fa == hf) = true ∧ ((nx : Int) == hx) = true) := by
    cases (fa == hf) <;> cases ((nx : Int) == hx) <;> simp
  clear hwr hm1 hm2
  rcases h3 with g1 | ⟨g1, g2⟩ | ⟨g1, g2⟩
  all_goals
    go_enter Tryd.func13, Tryd.ntmps13
    go_wp2_with fail
    go_returns
    exact ⟨⟨_, rfl, rfl⟩, by go_grown⟩

set_option maxHeartbeats 4000000 in
theorem rhear_2a (p j t h g q s cp : Int) (A : Option Addr) (n k : Nat) (a : Nat) (m me lo fa : Int) (nx : Nat) (du : Int) (ch : Bool) (hm : Int) (now : Int) (w : World) (hm1 : 1 ≤ hm) (hm2 : hm ≤ 16) (hwr : IntKind.i64.wrap (now + h) = now + h) (hwt : IntKind.i64.wrap (now + t) = now + t) (e1 : min (hm + 1) 16 = me) :
    Calls Tryd.prog 13 #[.agg #[.int .i64 p, .int .i64 j, .int .i64 t, .int .i64 h, .int .i64 g, .int .i64 q, .int .i64 s, .int .i64 cp, .slice A n k], .agg #[.int .u32 a, .int .i64 m, .int .i64 2, .int .i64 me, .int .i64 lo, .int .i64 fa, .int .u32 nx, .int .i64 du, .bool ch], .agg #[.int .i64 fa, .int .u32 nx, .int .i64 hm], .int .i64 now] w fun e w' => (∃ r, r = (⟨a, m, 2, me, lo, fa, nx, (now + t), ch⟩ : Rt) ∧ e = .returned (.agg #[.int .u32 r.a, .int .i64 r.m, .int .i64 r.st, .int .i64 r.me, .int .i64 r.lo, .int .i64 r.fa, .int .u32 r.nx, .int .i64 r.du, .bool r.ch])) ∧ Below w.heap.size w w' := by
  have hwm : IntKind.i64.wrap (hm + 1) = hm + 1 := IntWalk.i64_in _ ⟨by omega, by omega⟩
  have hmn : min 16 (hm + 1) = min (hm + 1) 16 := Int.min_comm _ _
  have de1 : (min (hm + 1) 16 == me) = true := by simp; omega
  clear e1
  clear hwr hm1 hm2
  go_enter Tryd.func13, Tryd.ntmps13
  go_wp2_with fail
  go_returns
  exact ⟨⟨_, rfl, rfl⟩, by go_grown⟩

set_option maxHeartbeats 4000000 in
theorem rhear_2b (p j t h g q s cp : Int) (A : Option Addr) (n k : Nat) (a : Nat) (m me lo fa : Int) (nx : Nat) (du : Int) (ch : Bool) (hm : Int) (now : Int) (w : World) (hm1 : 1 ≤ hm) (hm2 : hm ≤ 16) (hwr : IntKind.i64.wrap (now + h) = now + h) (hwt : IntKind.i64.wrap (now + t) = now + t) (e1 : ¬ min (hm + 1) 16 = me) (e2 : min (hm + 1) 16 = 16) :
    Calls Tryd.prog 13 #[.agg #[.int .i64 p, .int .i64 j, .int .i64 t, .int .i64 h, .int .i64 g, .int .i64 q, .int .i64 s, .int .i64 cp, .slice A n k], .agg #[.int .u32 a, .int .i64 m, .int .i64 2, .int .i64 me, .int .i64 lo, .int .i64 fa, .int .u32 nx, .int .i64 du, .bool ch], .agg #[.int .i64 fa, .int .u32 nx, .int .i64 hm], .int .i64 now] w fun e w' => (∃ r, r = lostR h ⟨a, m, 2, me, lo, fa, nx, du, ch⟩ now ∧ e = .returned (.agg #[.int .u32 r.a, .int .i64 r.m, .int .i64 r.st, .int .i64 r.me, .int .i64 r.lo, .int .i64 r.fa, .int .u32 r.nx, .int .i64 r.du, .bool r.ch])) ∧ Below w.heap.size w w' := by
  have hwm : IntKind.i64.wrap (hm + 1) = hm + 1 := IntWalk.i64_in _ ⟨by omega, by omega⟩
  have hmn : min 16 (hm + 1) = min (hm + 1) 16 := Int.min_comm _ _
  have de1 : (min (hm + 1) 16 == me) = false := by simp; omega
  have de2 : (min (hm + 1) 16 == 16) = true := by simp; omega
  clear e1 e2
  have HL := Lib.hid (fun W => refLose_2 p j t h g q s cp A n k a m me lo fa nx du ch now W hwr)
  have y := Blk.new (((w.alloc (.cells #[.int .i64 p, .int .i64 j, .int .i64 t, .int .i64 h, .int .i64 g, .int .i64 q, .int .i64 s, .int .i64 cp, .slice A n k] 24)).alloc (.cells #[.int .u32 a, .int .i64 m, .int .i64 2, .int .i64 me, .int .i64 lo, .int .i64 fa, .int .u32 nx, .int .i64 du, .bool ch] 31)).alloc (.cells #[.int .i64 fa, .int .u32 nx, .int .i64 hm] 33)) 31 #[.int .u32 0, .int .i64 0, .int .i64 0, .int .i64 0, .int .i64 0, .int .i64 0, .int .u32 0, .int .i64 0, .bool false]
  simp only [World.size_alloc] at y
  have B0 : Below w.heap.size w ((((w.alloc (.cells #[.int .i64 p, .int .i64 j, .int .i64 t, .int .i64 h, .int .i64 g, .int .i64 q, .int .i64 s, .int .i64 cp, .slice A n k] 24)).alloc (.cells #[.int .u32 a, .int .i64 m, .int .i64 2, .int .i64 me, .int .i64 lo, .int .i64 fa, .int .u32 nx, .int .i64 du, .bool ch] 31)).alloc (.cells #[.int .i64 fa, .int .u32 nx, .int .i64 hm] 33)).alloc (.cells #[.int .u32 0, .int .i64 0, .int .i64 0, .int .i64 0, .int .i64 0, .int .i64 0, .int .u32 0, .int .i64 0, .bool false] 31)) := balloc (balloc (balloc (balloc (Below.refl _ _) _) _) _) _
  have Y := Lib.hid (And.intro y B0)
  clear y B0
  clear hwr hm1 hm2
  go_enter Tryd.func13, Tryd.ntmps13
  go_wp2_with fail
  refine (HL.out _).mono ?_
  rintro e w1 ⟨⟨⟨a1, m1, st1, me1, lo1, fa1, nx1, du1, ch1⟩, hr1, rfl⟩, b1⟩
  have HR := Lib.hid hr1
  clear hr1
  have y1 := Y.out.1.below b1 Y.out.1.lt
  have c0 := (y1).cell 0
  have c1 := (y1).cell 1
  have c2 := (y1).cell 2
  have c3 := (y1).cell 3
  have c4 := (y1).cell 4
  have c5 := (y1).cell 5
  have c6 := (y1).cell 6
  have c7 := (y1).cell 7
  have c8 := (y1).cell 8
  simp only [List.getElem?_toArray, List.getElem?_cons_zero, List.getElem?_cons_succ] at c0 c1 c2 c3 c4 c5 c6 c7 c8
  have f0 := y1.frozen 0
  have f1 := y1.frozen 1
  have f2 := y1.frozen 2
  have f3 := y1.frozen 3
  have f4 := y1.frozen 4
  have f5 := y1.frozen 5
  have f6 := y1.frozen 6
  have f7 := y1.frozen 7
  have f8 := y1.frozen 8
  have z := (((((((((y1.set 0 (.int .u32 a1)).set 1 (.int .i64 m1)).set 2 (.int .i64 st1)).set 3 (.int .i64 me1)).set 4 (.int .i64 lo1)).set 5 (.int .i64 fa1)).set 6 (.int .u32 nx1)).set 7 (.int .i64 du1)).set 8 (.bool ch1))
  simp only [List.setIfInBounds_toArray, List.set_cons_zero, List.set_cons_succ] at z
  have bz : Below w.heap.size w (((((((((w1.setCell ⟨w.heap.size + 1 + 1 + 1, 0, none⟩ (.int .u32 a1)).setCell ⟨w.heap.size + 1 + 1 + 1, 1, none⟩ (.int .i64 m1)).setCell ⟨w.heap.size + 1 + 1 + 1, 2, none⟩ (.int .i64 st1)).setCell ⟨w.heap.size + 1 + 1 + 1, 3, none⟩ (.int .i64 me1)).setCell ⟨w.heap.size + 1 + 1 + 1, 4, none⟩ (.int .i64 lo1)).setCell ⟨w.heap.size + 1 + 1 + 1, 5, none⟩ (.int .i64 fa1)).setCell ⟨w.heap.size + 1 + 1 + 1, 6, none⟩ (.int .u32 nx1)).setCell ⟨w.heap.size + 1 + 1 + 1, 7, none⟩ (.int .i64 du1)).setCell ⟨w.heap.size + 1 + 1 + 1, 8, none⟩ (.bool ch1)) := ((((((((((bnext Y.out.2 b1).setCell (p := ⟨w.heap.size + 1 + 1 + 1, 0, none⟩) (by show w.heap.size ≤ w.heap.size + 1 + 1 + 1; omega) _).setCell (p := ⟨w.heap.size + 1 + 1 + 1, 1, none⟩) (by show w.heap.size ≤ w.heap.size + 1 + 1 + 1; omega) _).setCell (p := ⟨w.heap.size + 1 + 1 + 1, 2, none⟩) (by show w.heap.size ≤ w.heap.size + 1 + 1 + 1; omega) _).setCell (p := ⟨w.heap.size + 1 + 1 + 1, 3, none⟩) (by show w.heap.size ≤ w.heap.size + 1 + 1 + 1; omega) _).setCell (p := ⟨w.heap.size + 1 + 1 + 1, 4, none⟩) (by show w.heap.size ≤ w.heap.size + 1 + 1 + 1; omega) _).setCell (p := ⟨w.heap.size + 1 + 1 + 1, 5, none⟩) (by show w.heap.size ≤ w.heap.size + 1 + 1 + 1; omega) _).setCell (p := ⟨w.heap.size + 1 + 1 + 1, 6, none⟩) (by show w.heap.size ≤ w.heap.size + 1 + 1 + 1; omega) _).setCell (p := ⟨w.heap.size + 1 + 1 + 1, 7, none⟩) (by show w.heap.size ≤ w.heap.size + 1 + 1 + 1; omega) _).setCell (p := ⟨w.heap.size + 1 + 1 + 1, 8, none⟩) (by show w.heap.size ≤ w.heap.size + 1 + 1 + 1; omega) _)
  have QZ := Lib.hid (And.intro z bz)
  clear z bz y1
  go_wp2_with fail
  clear c0 c1 c2 c3 c4 c5 c6 c7 c8 f0 f1 f2 f3 f4 f5 f6 f7 f8
  generalize (((((((((w1.setCell ⟨w.heap.size + 1 + 1 + 1, 0, none⟩ (.int .u32 a1)).setCell ⟨w.heap.size + 1 + 1 + 1, 1, none⟩ (.int .i64 m1)).setCell ⟨w.heap.size + 1 + 1 + 1, 2, none⟩ (.int .i64 st1)).setCell ⟨w.heap.size + 1 + 1 + 1, 3, none⟩ (.int .i64 me1)).setCell ⟨w.heap.size + 1 + 1 + 1, 4, none⟩ (.int .i64 lo1)).setCell ⟨w.heap.size + 1 + 1 + 1, 5, none⟩ (.int .i64 fa1)).setCell ⟨w.heap.size + 1 + 1 + 1, 6, none⟩ (.int .u32 nx1)).setCell ⟨w.heap.size + 1 + 1 + 1, 7, none⟩ (.int .i64 du1)).setCell ⟨w.heap.size + 1 + 1 + 1, 8, none⟩ (.bool ch1)) = wz at *
  have zz := QZ.out.1
  have d0 := (zz).cell 0
  have d1 := (zz).cell 1
  have d2 := (zz).cell 2
  have d3 := (zz).cell 3
  have d4 := (zz).cell 4
  have d5 := (zz).cell 5
  have d6 := (zz).cell 6
  have d7 := (zz).cell 7
  have d8 := (zz).cell 8
  simp only [List.getElem?_toArray, List.getElem?_cons_zero, List.getElem?_cons_succ] at d0 d1 d2 d3 d4 d5 d6 d7 d8
  refine bodyPost_ret (v := .agg #[.int .u32 a1, .int .i64 m1, .int .i64 st1, .int .i64 me1, .int .i64 lo1, .int .i64 fa1, .int .u32 nx1, .int .i64 du1, .bool ch1]) (by simp [results, Tryd.results13, go_sem, d0, d1, d2, d3, d4, d5, d6, d7, d8]) rfl ?_
  exact ⟨⟨_, HR.out, rfl⟩, QZ.out.2⟩

set_option maxHeartbeats 4000000 in
theorem rhear_2c (p j t h g q s cp : Int) (A : Option Addr) (n k : Nat) (a : Nat) (m me lo fa : Int) (nx : Nat) (du : Int) (ch : Bool) (hm : Int) (now : Int) (w : World) (hm1 : 1 ≤ hm) (hm2 : hm ≤ 16) (hwr : IntKind.i64.wrap (now + h) = now + h) (hwt : IntKind.i64.wrap (now + t) = now + t) (e1 : ¬ min (hm + 1) 16 = me) (e2 : ¬ min (hm + 1) 16 = 16) :
    Calls Tryd.prog 13 #[.agg #[.int .i64 p, .int .i64 j, .int .i64 t, .int .i64 h, .int .i64 g, .int .i64 q, .int .i64 s, .int .i64 cp, .slice A n k], .agg #[.int .u32 a, .int .i64 m, .int .i64 2, .int .i64 me, .int .i64 lo, .int .i64 fa, .int .u32 nx, .int .i64 du, .bool ch], .agg #[.int .i64 fa, .int .u32 nx, .int .i64 hm], .int .i64 now] w fun e w' => (∃ r, r = becR t ⟨a, m, 2, me, lo, fa, nx, du, ch⟩ fa nx (min (hm + 1) 16) now ∧ e = .returned (.agg #[.int .u32 r.a, .int .i64 r.m, .int .i64 r.st, .int .i64 r.me, .int .i64 r.lo, .int .i64 r.fa, .int .u32 r.nx, .int .i64 r.du, .bool r.ch])) ∧ Below w.heap.size w w' := by
  have hwm : IntKind.i64.wrap (hm + 1) = hm + 1 := IntWalk.i64_in _ ⟨by omega, by omega⟩
  have hmn : min 16 (hm + 1) = min (hm + 1) 16 := Int.min_comm _ _
  have de1 : (min (hm + 1) 16 == me) = false := by simp; omega
  have de2 : (min (hm + 1) 16 == 16) = false := by simp; omega
  clear e1 e2
  have HB := Lib.hid (fun W => become_any p j t h g q s cp A n k a m 2 me lo fa nx du ch fa nx hm (min (hm + 1) 16) now W hwt)
  have y := Blk.new (((w.alloc (.cells #[.int .i64 p, .int .i64 j, .int .i64 t, .int .i64 h, .int .i64 g, .int .i64 q, .int .i64 s, .int .i64 cp, .slice A n k] 24)).alloc (.cells #[.int .u32 a, .int .i64 m, .int .i64 2, .int .i64 me, .int .i64 lo, .int .i64 fa, .int .u32 nx, .int .i64 du, .bool ch] 31)).alloc (.cells #[.int .i64 fa, .int .u32 nx, .int .i64 hm] 33)) 31 #[.int .u32 0, .int .i64 0, .int .i64 0, .int .i64 0, .int .i64 0, .int .i64 0, .int .u32 0, .int .i64 0, .bool false]
  simp only [World.size_alloc] at y
  have B0 : Below w.heap.size w ((((w.alloc (.cells #[.int .i64 p, .int .i64 j, .int .i64 t, .int .i64 h, .int .i64 g, .int .i64 q, .int .i64 s, .int .i64 cp, .slice A n k] 24)).alloc (.cells #[.int .u32 a, .int .i64 m, .int .i64 2, .int .i64 me, .int .i64 lo, .int .i64 fa, .int .u32 nx, .int .i64 du, .bool ch] 31)).alloc (.cells #[.int .i64 fa, .int .u32 nx, .int .i64 hm] 33)).alloc (.cells #[.int .u32 0, .int .i64 0, .int .i64 0, .int .i64 0, .int .i64 0, .int .i64 0, .int .u32 0, .int .i64 0, .bool false] 31)) := balloc (balloc (balloc (balloc (Below.refl _ _) _) _) _) _
  have Y := Lib.hid (And.intro y B0)
  clear y B0
  clear hwr hm1 hm2
  go_enter Tryd.func13, Tryd.ntmps13
  go_wp2_with fail
  refine (HB.out _).mono ?_
  rintro e w1 ⟨⟨⟨a1, m1, st1, me1, lo1, fa1, nx1, du1, ch1⟩, hr1, rfl⟩, b1⟩
  have HR := Lib.hid hr1
  clear hr1
  have y1 := Y.out.1.below b1 Y.out.1.lt
  have c0 := (y1).cell 0
  have c1 := (y1).cell 1
  have c2 := (y1).cell 2
  have c3 := (y1).cell 3
  have c4 := (y1).cell 4
  have c5 := (y1).cell 5
  have c6 := (y1).cell 6
  have c7 := (y1).cell 7
  have c8 := (y1).cell 8
  simp only [List.getElem?_toArray, List.getElem?_cons_zero, List.getElem?_cons_succ] at c0 c1 c2 c3 c4 c5 c6 c7 c8
  have f0 := y1.frozen 0
  have f1 := y1.frozen 1
  have f2 := y1.frozen 2
  have f3 := y1.frozen 3
  have f4 := y1.frozen 4
  have f5 := y1.frozen 5
  have f6 := y1.frozen 6
  have f7 := y1.frozen 7
  have f8 := y1.frozen 8
  have z := (((((((((y1.set 0 (.int .u32 a1)).set 1 (.int .i64 m1)).set 2 (.int .i64 st1)).set 3 (.int .i64 me1)).set 4 (.int .i64 lo1)).set 5 (.int .i64 fa1)).set 6 (.int .u32 nx1)).set 7 (.int .i64 du1)).set 8 (.bool ch1))
  simp only [List.setIfInBounds_toArray, List.set_cons_zero, List.set_cons_succ] at z
  have bz : Below w.heap.size w (((((((((w1.setCell ⟨w.heap.size + 1 + 1 + 1, 0, none⟩ (.int .u32 a1)).setCell ⟨w.heap.size + 1 + 1 + 1, 1, none⟩ (.int .i64 m1)).setCell ⟨w.heap.size + 1 + 1 + 1, 2, none⟩ (.int .i64 st1)).setCell ⟨w.heap.size + 1 + 1 + 1, 3, none⟩ (.int .i64 me1)).setCell ⟨w.heap.size + 1 + 1 + 1, 4, none⟩ (.int .i64 lo1)).setCell ⟨w.heap.size + 1 + 1 + 1, 5, none⟩ (.int .i64 fa1)).setCell ⟨w.heap.size + 1 + 1 + 1, 6, none⟩ (.int .u32 nx1)).setCell ⟨w.heap.size + 1 + 1 + 1, 7, none⟩ (.int .i64 du1)).setCell ⟨w.heap.size + 1 + 1 + 1, 8, none⟩ (.bool ch1)) := ((((((((((bnext Y.out.2 b1).setCell (p := ⟨w.heap.size + 1 + 1 + 1, 0, none⟩) (by show w.heap.size ≤ w.heap.size + 1 + 1 + 1; omega) _).setCell (p := ⟨w.heap.size + 1 + 1 + 1, 1, none⟩) (by show w.heap.size ≤ w.heap.size + 1 + 1 + 1; omega) _).setCell (p := ⟨w.heap.size + 1 + 1 + 1, 2, none⟩) (by show w.heap.size ≤ w.heap.size + 1 + 1 + 1; omega) _).setCell (p := ⟨w.heap.size + 1 + 1 + 1, 3, none⟩) (by show w.heap.size ≤ w.heap.size + 1 + 1 + 1; omega) _).setCell (p := ⟨w.heap.size + 1 + 1 + 1, 4, none⟩) (by show w.heap.size ≤ w.heap.size + 1 + 1 + 1; omega) _).setCell (p := ⟨w.heap.size + 1 + 1 + 1, 5, none⟩) (by show w.heap.size ≤ w.heap.size + 1 + 1 + 1; omega) _).setCell (p := ⟨w.heap.size + 1 + 1 + 1, 6, none⟩) (by show w.heap.size ≤ w.heap.size + 1 + 1 + 1; omega) _).setCell (p := ⟨w.heap.size + 1 + 1 + 1, 7, none⟩) (by show w.heap.size ≤ w.heap.size + 1 + 1 + 1; omega) _).setCell (p := ⟨w.heap.size + 1 + 1 + 1, 8, none⟩) (by show w.heap.size ≤ w.heap.size + 1 + 1 + 1; omega) _)
  have QZ := Lib.hid (And.intro z bz)
  clear z bz y1
  go_wp2_with fail
  clear c0 c1 c2 c3 c4 c5 c6 c7 c8 f0 f1 f2 f3 f4 f5 f6 f7 f8
  generalize (((((((((w1.setCell ⟨w.heap.size + 1 + 1 + 1, 0, none⟩ (.int .u32 a1)).setCell ⟨w.heap.size + 1 + 1 + 1, 1, none⟩ (.int .i64 m1)).setCell ⟨w.heap.size + 1 + 1 + 1, 2, none⟩ (.int .i64 st1)).setCell ⟨w.heap.size + 1 + 1 + 1, 3, none⟩ (.int .i64 me1)).setCell ⟨w.heap.size + 1 + 1 + 1, 4, none⟩ (.int .i64 lo1)).setCell ⟨w.heap.size + 1 + 1 + 1, 5, none⟩ (.int .i64 fa1)).setCell ⟨w.heap.size + 1 + 1 + 1, 6, none⟩ (.int .u32 nx1)).setCell ⟨w.heap.size + 1 + 1 + 1, 7, none⟩ (.int .i64 du1)).setCell ⟨w.heap.size + 1 + 1 + 1, 8, none⟩ (.bool ch1)) = wz at *
  have zz := QZ.out.1
  have d0 := (zz).cell 0
  have d1 := (zz).cell 1
  have d2 := (zz).cell 2
  have d3 := (zz).cell 3
  have d4 := (zz).cell 4
  have d5 := (zz).cell 5
  have d6 := (zz).cell 6
  have d7 := (zz).cell 7
  have d8 := (zz).cell 8
  simp only [List.getElem?_toArray, List.getElem?_cons_zero, List.getElem?_cons_succ] at d0 d1 d2 d3 d4 d5 d6 d7 d8
  refine bodyPost_ret (v := .agg #[.int .u32 a1, .int .i64 m1, .int .i64 st1, .int .i64 me1, .int .i64 lo1, .int .i64 fa1, .int .u32 nx1, .int .i64 du1, .bool ch1]) (by simp [results, Tryd.results13, go_sem, d0, d1, d2, d3, d4, d5, d6, d7, d8]) rfl ?_
  exact ⟨⟨_, HR.out, rfl⟩, QZ.out.2⟩

set_option maxHeartbeats 4000000 in
theorem rhear_2d (p j t h g q s cp : Int) (A : Option Addr) (n k : Nat) (a : Nat) (m me lo fa : Int) (nx : Nat) (du : Int) (ch : Bool) (hx : Nat) (hm : Int) (now : Int) (w : World) (hm1 : 1 ≤ hm) (hm2 : hm ≤ 16) (hwr : IntKind.i64.wrap (now + h) = now + h) (hwt : IntKind.i64.wrap (now + t) = now + t) (e0 : ¬ hx = nx) (e1 : min (hm + 1) 16 < me) :
    Calls Tryd.prog 13 #[.agg #[.int .i64 p, .int .i64 j, .int .i64 t, .int .i64 h, .int .i64 g, .int .i64 q, .int .i64 s, .int .i64 cp, .slice A n k], .agg #[.int .u32 a, .int .i64 m, .int .i64 2, .int .i64 me, .int .i64 lo, .int .i64 fa, .int .u32 nx, .int .i64 du, .bool ch], .agg #[.int .i64 fa, .int .u32 hx, .int .i64 hm], .int .i64 now] w fun e w' => (∃ r, r = becR t ⟨a, m, 2, me, lo, fa, nx, du, ch⟩ fa hx (min (hm + 1) 16) now ∧ e = .returned (.agg #[.int .u32 r.a, .int .i64 r.m, .int .i64 r.st, .int .i64 r.me, .int .i64 r.lo, .int .i64 r.fa, .int .u32 r.nx, .int .i64 r.du, .bool r.ch])) ∧ Below w.heap.size w w' := by
  have hwm : IntKind.i64.wrap (hm + 1) = hm + 1 := IntWalk.i64_in _ ⟨by omega, by omega⟩
  have hmn : min 16 (hm + 1) = min (hm + 1) 16 := Int.min_comm _ _
  have de0 : ((hx : Int) == nx) = false := by simp; omega
  have de0b : ((nx : Int) == hx) = false := by simp; omega
  have de1 : decide (min (hm + 1) 16 < me) = true := by simp; omega
  clear e0 e1
  have HB := Lib.hid (fun W => become_any p j t h g q s cp A n k a m 2 me lo fa nx du ch fa hx hm (min (hm + 1) 16) now W hwt)
  have y := Blk.new (((w.alloc (.cells #[.int .i64 p, .int .i64 j, .int .i64 t, .int .i64 h, .int .i64 g, .int .i64 q, .int .i64 s, .int .i64 cp, .slice A n k] 24)).alloc (.cells #[.int .u32 a, .int .i64 m, .int .i64 2, .int .i64 me, .int .i64 lo, .int .i64 fa, .int .u32 nx, .int .i64 du, .bool ch] 31)).alloc (.cells #[.int .i64 fa, .int .u32 hx, .int .i64 hm] 33)) 31 #[.int .u32 0, .int .i64 0, .int .i64 0, .int .i64 0, .int .i64 0, .int .i64 0, .int .u32 0, .int .i64 0, .bool false]
  simp only [World.size_alloc] at y
  have B0 : Below w.heap.size w ((((w.alloc (.cells #[.int .i64 p, .int .i64 j, .int .i64 t, .int .i64 h, .int .i64 g, .int .i64 q, .int .i64 s, .int .i64 cp, .slice A n k] 24)).alloc (.cells #[.int .u32 a, .int .i64 m, .int .i64 2, .int .i64 me, .int .i64 lo, .int .i64 fa, .int .u32 nx, .int .i64 du, .bool ch] 31)).alloc (.cells #[.int .i64 fa, .int .u32 hx, .int .i64 hm] 33)).alloc (.cells #[.int .u32 0, .int .i64 0, .int .i64 0, .int .i64 0, .int .i64 0, .int .i64 0, .int .u32 0, .int .i64 0, .bool false] 31)) := balloc (balloc (balloc (balloc (Below.refl _ _) _) _) _) _
  have Y := Lib.hid (And.intro y B0)
  clear y B0
  clear hwr hm1 hm2
  go_enter Tryd.func13, Tryd.ntmps13
  go_wp2_with fail
  refine (HB.out _).mono ?_
  rintro e w1 ⟨⟨⟨a1, m1, st1, me1, lo1, fa1, nx1, du1, ch1⟩, hr1, rfl⟩, b1⟩
  have HR := Lib.hid hr1
  clear hr1
  have y1 := Y.out.1.below b1 Y.out.1.lt
  have c0 := (y1).cell 0
  have c1 := (y1).cell 1
  have c2 := (y1).cell 2
  have c3 := (y1).cell 3
  have c4 := (y1).cell 4
  have c5 := (y1).cell 5
  have c6 := (y1).cell 6
  have c7 := (y1).cell 7
  have c8 := (y1).cell 8
  simp only [List.getElem?_toArray, List.getElem?_cons_zero, List.getElem?_cons_succ] at c0 c1 c2 c3 c4 c5 c6 c7 c8
  have f0 := y1.frozen 0
  have f1 := y1.frozen 1
  have f2 := y1.frozen 2
  have f3 := y1.frozen 3
  have f4 := y1.frozen 4
  have f5 := y1.frozen 5
  have f6 := y1.frozen 6
  have f7 := y1.frozen 7
  have f8 := y1.frozen 8
  have z := (((((((((y1.set 0 (.int .u32 a1)).set 1 (.int .i64 m1)).set 2 (.int .i64 st1)).set 3 (.int .i64 me1)).set 4 (.int .i64 lo1)).set 5 (.int .i64 fa1)).set 6 (.int .u32 nx1)).set 7 (.int .i64 du1)).set 8 (.bool ch1))
  simp only [List.setIfInBounds_toArray, List.set_cons_zero, List.set_cons_succ] at z
  have bz : Below w.heap.size w (((((((((w1.setCell ⟨w.heap.size + 1 + 1 + 1, 0, none⟩ (.int .u32 a1)).setCell ⟨w.heap.size + 1 + 1 + 1, 1, none⟩ (.int .i64 m1)).setCell ⟨w.heap.size + 1 + 1 + 1, 2, none⟩ (.int .i64 st1)).setCell ⟨w.heap.size + 1 + 1 + 1, 3, none⟩ (.int .i64 me1)).setCell ⟨w.heap.size + 1 + 1 + 1, 4, none⟩ (.int .i64 lo1)).setCell ⟨w.heap.size + 1 + 1 + 1, 5, none⟩ (.int .i64 fa1)).setCell ⟨w.heap.size + 1 + 1 + 1, 6, none⟩ (.int .u32 nx1)).setCell ⟨w.heap.size + 1 + 1 + 1, 7, none⟩ (.int .i64 du1)).setCell ⟨w.heap.size + 1 + 1 + 1, 8, none⟩ (.bool ch1)) := ((((((((((bnext Y.out.2 b1).setCell (p := ⟨w.heap.size + 1 + 1 + 1, 0, none⟩) (by show w.heap.size ≤ w.heap.size + 1 + 1 + 1; omega) _).setCell (p := ⟨w.heap.size + 1 + 1 + 1, 1, none⟩) (by show w.heap.size ≤ w.heap.size + 1 + 1 + 1; omega) _).setCell (p := ⟨w.heap.size + 1 + 1 + 1, 2, none⟩) (by show w.heap.size ≤ w.heap.size + 1 + 1 + 1; omega) _).setCell (p := ⟨w.heap.size + 1 + 1 + 1, 3, none⟩) (by show w.heap.size ≤ w.heap.size + 1 + 1 + 1; omega) _).setCell (p := ⟨w.heap.size + 1 + 1 + 1, 4, none⟩) (by show w.heap.size ≤ w.heap.size + 1 + 1 + 1; omega) _).setCell (p := ⟨w.heap.size + 1 + 1 + 1, 5, none⟩) (by show w.heap.size ≤ w.heap.size + 1 + 1 + 1; omega) _).setCell (p := ⟨w.heap.size + 1 + 1 + 1, 6, none⟩) (by show w.heap.size ≤ w.heap.size + 1 + 1 + 1; omega) _).setCell (p := ⟨w.heap.size + 1 + 1 + 1, 7, none⟩) (by show w.heap.size ≤ w.heap.size + 1 + 1 + 1; omega) _).setCell (p := ⟨w.heap.size + 1 + 1 + 1, 8, none⟩) (by show w.heap.size ≤ w.heap.size + 1 + 1 + 1; omega) _)
  have QZ := Lib.hid (And.intro z bz)
  clear z bz y1
  go_wp2_with fail
  clear c0 c1 c2 c3 c4 c5 c6 c7 c8 f0 f1 f2 f3 f4 f5 f6 f7 f8
  generalize (((((((((w1.setCell ⟨w.heap.size + 1 + 1 + 1, 0, none⟩ (.int .u32 a1)).setCell ⟨w.heap.size + 1 + 1 + 1, 1, none⟩ (.int .i64 m1)).setCell ⟨w.heap.size + 1 + 1 + 1, 2, none⟩ (.int .i64 st1)).setCell ⟨w.heap.size + 1 + 1 + 1, 3, none⟩ (.int .i64 me1)).setCell ⟨w.heap.size + 1 + 1 + 1, 4, none⟩ (.int .i64 lo1)).setCell ⟨w.heap.size + 1 + 1 + 1, 5, none⟩ (.int .i64 fa1)).setCell ⟨w.heap.size + 1 + 1 + 1, 6, none⟩ (.int .u32 nx1)).setCell ⟨w.heap.size + 1 + 1 + 1, 7, none⟩ (.int .i64 du1)).setCell ⟨w.heap.size + 1 + 1 + 1, 8, none⟩ (.bool ch1)) = wz at *
  have zz := QZ.out.1
  have d0 := (zz).cell 0
  have d1 := (zz).cell 1
  have d2 := (zz).cell 2
  have d3 := (zz).cell 3
  have d4 := (zz).cell 4
  have d5 := (zz).cell 5
  have d6 := (zz).cell 6
  have d7 := (zz).cell 7
  have d8 := (zz).cell 8
  simp only [List.getElem?_toArray, List.getElem?_cons_zero, List.getElem?_cons_succ] at d0 d1 d2 d3 d4 d5 d6 d7 d8
  refine bodyPost_ret (v := .agg #[.int .u32 a1, .int .i64 m1, .int .i64 st1, .int .i64 me1, .int .i64 lo1, .int .i64 fa1, .int .u32 nx1, .int .i64 du1, .bool ch1]) (by simp [results, Tryd.results13, go_sem, d0, d1, d2, d3, d4, d5, d6, d7, d8]) rfl ?_
  exact ⟨⟨_, HR.out, rfl⟩, QZ.out.2⟩

set_option maxHeartbeats 4000000 in
theorem rhear_2e (p j t h g q s cp : Int) (A : Option Addr) (n k : Nat) (a : Nat) (m me lo fa : Int) (nx : Nat) (du : Int) (ch : Bool) (hx : Nat) (hm : Int) (now : Int) (w : World) (hm1 : 1 ≤ hm) (hm2 : hm ≤ 16) (hwr : IntKind.i64.wrap (now + h) = now + h) (hwt : IntKind.i64.wrap (now + t) = now + t) (e0 : ¬ hx = nx) (e1 : ¬ min (hm + 1) 16 < me) :
    Calls Tryd.prog 13 #[.agg #[.int .i64 p, .int .i64 j, .int .i64 t, .int .i64 h, .int .i64 g, .int .i64 q, .int .i64 s, .int .i64 cp, .slice A n k], .agg #[.int .u32 a, .int .i64 m, .int .i64 2, .int .i64 me, .int .i64 lo, .int .i64 fa, .int .u32 nx, .int .i64 du, .bool ch], .agg #[.int .i64 fa, .int .u32 hx, .int .i64 hm], .int .i64 now] w fun e w' => (∃ r, r = (⟨a, m, 2, me, lo, fa, nx, du, ch⟩ : Rt) ∧ e = .returned (.agg #[.int .u32 r.a, .int .i64 r.m, .int .i64 r.st, .int .i64 r.me, .int .i64 r.lo, .int .i64 r.fa, .int .u32 r.nx, .int .i64 r.du, .bool r.ch])) ∧ Below w.heap.size w w' := by
  have hwm : IntKind.i64.wrap (hm + 1) = hm + 1 := IntWalk.i64_in _ ⟨by omega, by omega⟩
  have hmn : min 16 (hm + 1) = min (hm + 1) 16 := Int.min_comm _ _
  have de0 : ((hx : Int) == nx) = false := by simp; omega
  have de0b : ((nx : Int) == hx) = false := by simp; omega
  have de1 : decide (min (hm + 1) 16 < me) = false := by simp; omega
  clear e0 e1
  clear hwr hm1 hm2
  go_enter Tryd.func13, Tryd.ntmps13
  go_wp2_with fail
  go_returns
  exact ⟨⟨_, rfl, rfl⟩, by go_grown⟩

set_option maxHeartbeats 4000000 in
theorem rhear_2f (p j t h g q s cp : Int) (A : Option Addr) (n k : Nat) (a : Nat) (m me lo fa : Int) (nx : Nat) (du : Int) (ch : Bool) (hf : Int) (hx : Nat) (hm : Int) (now : Int) (w : World) (hm1 : 1 ≤ hm) (hm2 : hm ≤ 16) (hwr : IntKind.i64.wrap (now + h) = now + h) (hwt : IntKind.i64.wrap (now + t) = now + t) (e0 : ¬ hf = fa) (e1 : min (hm + 1) 16 < me) :
    Calls Tryd.prog 13 #[.agg #[.int .i64 p, .int .i64 j, .int .i64 t, .int .i64 h, .int .i64 g, .int .i64 q, .int .i64 s, .int .i64 cp, .slice A n k], .agg #[.int .u32 a, .int .i64 m, .int .i64 2, .int .i64 me, .int .i64 lo, .int .i64 fa, .int .u32 nx, .int .i64 du, .bool ch], .agg #[.int .i64 hf, .int .u32 hx, .int .i64 hm], .int .i64 now] w fun e w' => (∃ r, r = becR t ⟨a, m, 2, me, lo, fa, nx, du, ch⟩ hf hx (min (hm + 1) 16) now ∧ e = .returned (.agg #[.int .u32 r.a, .int .i64 r.m, .int .i64 r.st, .int .i64 r.me, .int .i64 r.lo, .int .i64 r.fa, .int .u32 r.nx, .int .i64 r.du, .bool r.ch])) ∧ Below w.heap.size w w' := by
  have hwm : IntKind.i64.wrap (hm + 1) = hm + 1 := IntWalk.i64_in _ ⟨by omega, by omega⟩
  have hmn : min 16 (hm + 1) = min (hm + 1) 16 := Int.min_comm _ _
  have de0 : (hf == fa) = false := by simp; omega
  have de0b : (fa == hf) = false := by simp; omega
  have de1 : decide (min (hm + 1) 16 < me) = true := by simp; omega
  clear e0 e1
  have HB := Lib.hid (fun W => become_any p j t h g q s cp A n k a m 2 me lo fa nx du ch hf hx hm (min (hm + 1) 16) now W hwt)
  have y := Blk.new (((w.alloc (.cells #[.int .i64 p, .int .i64 j, .int .i64 t, .int .i64 h, .int .i64 g, .int .i64 q, .int .i64 s, .int .i64 cp, .slice A n k] 24)).alloc (.cells #[.int .u32 a, .int .i64 m, .int .i64 2, .int .i64 me, .int .i64 lo, .int .i64 fa, .int .u32 nx, .int .i64 du, .bool ch] 31)).alloc (.cells #[.int .i64 hf, .int .u32 hx, .int .i64 hm] 33)) 31 #[.int .u32 0, .int .i64 0, .int .i64 0, .int .i64 0, .int .i64 0, .int .i64 0, .int .u32 0, .int .i64 0, .bool false]
  simp only [World.size_alloc] at y
  have B0 : Below w.heap.size w ((((w.alloc (.cells #[.int .i64 p, .int .i64 j, .int .i64 t, .int .i64 h, .int .i64 g, .int .i64 q, .int .i64 s, .int .i64 cp, .slice A n k] 24)).alloc (.cells #[.int .u32 a, .int .i64 m, .int .i64 2, .int .i64 me, .int .i64 lo, .int .i64 fa, .int .u32 nx, .int .i64 du, .bool ch] 31)).alloc (.cells #[.int .i64 hf, .int .u32 hx, .int .i64 hm] 33)).alloc (.cells #[.int .u32 0, .int .i64 0, .int .i64 0, .int .i64 0, .int .i64 0, .int .i64 0, .int .u32 0, .int .i64 0, .bool false] 31)) := balloc (balloc (balloc (balloc (Below.refl _ _) _) _) _) _
  have Y := Lib.hid (And.intro y B0)
  clear y B0
  clear hwr hm1 hm2
  go_enter Tryd.func13, Tryd.ntmps13
  go_wp2_with fail
  refine (HB.out _).mono ?_
  rintro e w1 ⟨⟨⟨a1, m1, st1, me1, lo1, fa1, nx1, du1, ch1⟩, hr1, rfl⟩, b1⟩
  have HR := Lib.hid hr1
  clear hr1
  have y1 := Y.out.1.below b1 Y.out.1.lt
  have c0 := (y1).cell 0
  have c1 := (y1).cell 1
  have c2 := (y1).cell 2
  have c3 := (y1).cell 3
  have c4 := (y1).cell 4
  have c5 := (y1).cell 5
  have c6 := (y1).cell 6
  have c7 := (y1).cell 7
  have c8 := (y1).cell 8
  simp only [List.getElem?_toArray, List.getElem?_cons_zero, List.getElem?_cons_succ] at c0 c1 c2 c3 c4 c5 c6 c7 c8
  have f0 := y1.frozen 0
  have f1 := y1.frozen 1
  have f2 := y1.frozen 2
  have f3 := y1.frozen 3
  have f4 := y1.frozen 4
  have f5 := y1.frozen 5
  have f6 := y1.frozen 6
  have f7 := y1.frozen 7
  have f8 := y1.frozen 8
  have z := (((((((((y1.set 0 (.int .u32 a1)).set 1 (.int .i64 m1)).set 2 (.int .i64 st1)).set 3 (.int .i64 me1)).set 4 (.int .i64 lo1)).set 5 (.int .i64 fa1)).set 6 (.int .u32 nx1)).set 7 (.int .i64 du1)).set 8 (.bool ch1))
  simp only [List.setIfInBounds_toArray, List.set_cons_zero, List.set_cons_succ] at z
  have bz : Below w.heap.size w (((((((((w1.setCell ⟨w.heap.size + 1 + 1 + 1, 0, none⟩ (.int .u32 a1)).setCell ⟨w.heap.size + 1 + 1 + 1, 1, none⟩ (.int .i64 m1)).setCell ⟨w.heap.size + 1 + 1 + 1, 2, none⟩ (.int .i64 st1)).setCell ⟨w.heap.size + 1 + 1 + 1, 3, none⟩ (.int .i64 me1)).setCell ⟨w.heap.size + 1 + 1 + 1, 4, none⟩ (.int .i64 lo1)).setCell ⟨w.heap.size + 1 + 1 + 1, 5, none⟩ (.int .i64 fa1)).setCell ⟨w.heap.size + 1 + 1 + 1, 6, none⟩ (.int .u32 nx1)).setCell ⟨w.heap.size + 1 + 1 + 1, 7, none⟩ (.int .i64 du1)).setCell ⟨w.heap.size + 1 + 1 + 1, 8, none⟩ (.bool ch1)) := ((((((((((bnext Y.out.2 b1).setCell (p := ⟨w.heap.size + 1 + 1 + 1, 0, none⟩) (by show w.heap.size ≤ w.heap.size + 1 + 1 + 1; omega) _).setCell (p := ⟨w.heap.size + 1 + 1 + 1, 1, none⟩) (by show w.heap.size ≤ w.heap.size + 1 + 1 + 1; omega) _).setCell (p := ⟨w.heap.size + 1 + 1 + 1, 2, none⟩) (by show w.heap.size ≤ w.heap.size + 1 + 1 + 1; omega) _).setCell (p := ⟨w.heap.size + 1 + 1 + 1, 3, none⟩) (by show w.heap.size ≤ w.heap.size + 1 + 1 + 1; omega) _).setCell (p := ⟨w.heap.size + 1 + 1 + 1, 4, none⟩) (by show w.heap.size ≤ w.heap.size + 1 + 1 + 1; omega) _).setCell (p := ⟨w.heap.size + 1 + 1 + 1, 5, none⟩) (by show w.heap.size ≤ w.heap.size + 1 + 1 + 1; omega) _).setCell (p := ⟨w.heap.size + 1 + 1 + 1, 6, none⟩) (by show w.heap.size ≤ w.heap.size + 1 + 1 + 1; omega) _).setCell (p := ⟨w.heap.size + 1 + 1 + 1, 7, none⟩) (by show w.heap.size ≤ w.heap.size + 1 + 1 + 1; omega) _).setCell (p := ⟨w.heap.size + 1 + 1 + 1, 8, none⟩) (by show w.heap.size ≤ w.heap.size + 1 + 1 + 1; omega) _)
  have QZ := Lib.hid (And.intro z bz)
  clear z bz y1
  go_wp2_with fail
  clear c0 c1 c2 c3 c4 c5 c6 c7 c8 f0 f1 f2 f3 f4 f5 f6 f7 f8
  generalize (((((((((w1.setCell ⟨w.heap.size + 1 + 1 + 1, 0, none⟩ (.int .u32 a1)).setCell ⟨w.heap.size + 1 + 1 + 1, 1, none⟩ (.int .i64 m1)).setCell ⟨w.heap.size + 1 + 1 + 1, 2, none⟩ (.int .i64 st1)).setCell ⟨w.heap.size + 1 + 1 + 1, 3, none⟩ (.int .i64 me1)).setCell ⟨w.heap.size + 1 + 1 + 1, 4, none⟩ (.int .i64 lo1)).setCell ⟨w.heap.size + 1 + 1 + 1, 5, none⟩ (.int .i64 fa1)).setCell ⟨w.heap.size + 1 + 1 + 1, 6, none⟩ (.int .u32 nx1)).setCell ⟨w.heap.size + 1 + 1 + 1, 7, none⟩ (.int .i64 du1)).setCell ⟨w.heap.size + 1 + 1 + 1, 8, none⟩ (.bool ch1)) = wz at *
  have zz := QZ.out.1
  have d0 := (zz).cell 0
  have d1 := (zz).cell 1
  have d2 := (zz).cell 2
  have d3 := (zz).cell 3
  have d4 := (zz).cell 4
  have d5 := (zz).cell 5
  have d6 := (zz).cell 6
  have d7 := (zz).cell 7
  have d8 := (zz).cell 8
  simp only [List.getElem?_toArray, List.getElem?_cons_zero, List.getElem?_cons_succ] at d0 d1 d2 d3 d4 d5 d6 d7 d8
  refine bodyPost_ret (v := .agg #[.int .u32 a1, .int .i64 m1, .int .i64 st1, .int .i64 me1, .int .i64 lo1, .int .i64 fa1, .int .u32 nx1, .int .i64 du1, .bool ch1]) (by simp [results, Tryd.results13, go_sem, d0, d1, d2, d3, d4, d5, d6, d7, d8]) rfl ?_
  exact ⟨⟨_, HR.out, rfl⟩, QZ.out.2⟩

set_option maxHeartbeats 4000000 in
theorem rhear_2g (p j t h g q s cp : Int) (A : Option Addr) (n k : Nat) (a : Nat) (m me lo fa : Int) (nx : Nat) (du : Int) (ch : Bool) (hf : Int) (hx : Nat) (hm : Int) (now : Int) (w : World) (hm1 : 1 ≤ hm) (hm2 : hm ≤ 16) (hwr : IntKind.i64.wrap (now + h) = now + h) (hwt : IntKind.i64.wrap (now + t) = now + t) (e0 : ¬ hf = fa) (e1 : ¬ min (hm + 1) 16 < me) :
    Calls Tryd.prog 13 #[.agg #[.int .i64 p, .int .i64 j, .int .i64 t, .int .i64 h, .int .i64 g, .int .i64 q, .int .i64 s, .int .i64 cp, .slice A n k], .agg #[.int .u32 a, .int .i64 m, .int .i64 2, .int .i64 me, .int .i64 lo, .int .i64 fa, .int .u32 nx, .int .i64 du, .bool ch], .agg #[.int .i64 hf, .int .u32 hx, .int .i64 hm], .int .i64 now] w fun e w' => (∃ r, r = (⟨a, m, 2, me, lo, fa, nx, du, ch⟩ : Rt) ∧ e = .returned (.agg #[.int .u32 r.a, .int .i64 r.m, .int .i64 r.st, .int .i64 r.me, .int .i64 r.lo, .int .i64 r.fa, .int .u32 r.nx, .int .i64 r.du, .bool r.ch])) ∧ Below w.heap.size w w' := by
  have hwm : IntKind.i64.wrap (hm + 1) = hm + 1 := IntWalk.i64_in _ ⟨by omega, by omega⟩
  have hmn : min 16 (hm + 1) = min (hm + 1) 16 := Int.min_comm _ _
  have de0 : (hf == fa) = false := by simp; omega
  have de0b : (fa == hf) = false := by simp; omega
  have de1 : decide (min (hm + 1) 16 < me) = false := by simp; omega
  clear e0 e1
  clear hwr hm1 hm2
  go_enter Tryd.func13, Tryd.ntmps13
  go_wp2_with fail
  go_returns
  exact ⟨⟨_, rfl, rfl⟩, by go_grown⟩

set_option maxHeartbeats 4000000 in
theorem rhear_3a (p j t h g q s cp : Int) (A : Option Addr) (n k : Nat) (a : Nat) (m me lo fa : Int) (nx : Nat) (du : Int) (ch : Bool) (hf : Int) (hx : Nat) (hm : Int) (now : Int) (w : World) (hm1 : 1 ≤ hm) (hm2 : hm ≤ 16) (hwr : IntKind.i64.wrap (now + h) = now + h) (hwt : IntKind.i64.wrap (now + t) = now + t) (e1 : min (hm + 1) 16 < lo) :
    Calls Tryd.prog 13 #[.agg #[.int .i64 p, .int .i64 j, .int .i64 t, .int .i64 h, .int .i64 g, .int .i64 q, .int .i64 s, .int .i64 cp, .slice A n k], .agg #[.int .u32 a, .int .i64 m, .int .i64 3, .int .i64 me, .int .i64 lo, .int .i64 fa, .int .u32 nx, .int .i64 du, .bool ch], .agg #[.int .i64 hf, .int .u32 hx, .int .i64 hm], .int .i64 now] w fun e w' => (∃ r, r = becR t ⟨a, m, 3, me, lo, fa, nx, du, ch⟩ hf hx (min (hm + 1) 16) now ∧ e = .returned (.agg #[.int .u32 r.a, .int .i64 r.m, .int .i64 r.st, .int .i64 r.me, .int .i64 r.lo, .int .i64 r.fa, .int .u32 r.nx, .int .i64 r.du, .bool r.ch])) ∧ Below w.heap.size w w' := by
  have hwm : IntKind.i64.wrap (hm + 1) = hm + 1 := IntWalk.i64_in _ ⟨by omega, by omega⟩
  have hmn : min 16 (hm + 1) = min (hm + 1) 16 := Int.min_comm _ _
  have de1 : decide (min (hm + 1) 16 < lo) = true := by simp; omega
  clear e1
  have HB := Lib.hid (fun W => become_any p j t h g q s cp A n k a m 3 me lo fa nx du ch hf hx hm (min (hm + 1) 16) now W hwt)
  have y := Blk.new (((w.alloc (.cells #[.int .i64 p, .int .i64 j, .int .i64 t, .int .i64 h, .int .i64 g, .int .i64 q, .int .i64 s, .int .i64 cp, .slice A n k] 24)).alloc (.cells #[.int .u32 a, .int .i64 m, .int .i64 3, .int .i64 me, .int .i64 lo, .int .i64 fa, .int .u32 nx, .int .i64 du, .bool ch] 31)).alloc (.cells #[.int .i64 hf, .int .u32 hx, .int .i64 hm] 33)) 31 #[.int .u32 0, .int .i64 0, .int .i64 0, .int .i64 0, .int .i64 0, .int .i64 0, .int .u32 0, .int .i64 0, .bool false]
  simp only [World.size_alloc] at y
  have B0 : Below w.heap.size w ((((w.alloc (.cells #[.int .i64 p, .int .i64 j, .int .i64 t, .int .i64 h, .int .i64 g, .int .i64 q, .int .i64 s, .int .i64 cp, .slice A n k] 24)).alloc (.cells #[.int .u32 a, .int .i64 m, .int .i64 3, .int .i64 me, .int .i64 lo, .int .i64 fa, .int .u32 nx, .int .i64 du, .bool ch] 31)).alloc (.cells #[.int .i64 hf, .int .u32 hx, .int .i64 hm] 33)).alloc (.cells #[.int .u32 0, .int .i64 0, .int .i64 0, .int .i64 0, .int .i64 0, .int .i64 0, .int .u32 0, .int .i64 0, .bool false] 31)) := balloc (balloc (balloc (balloc (Below.refl _ _) _) _) _) _
  have Y := Lib.hid (And.intro y B0)
  clear y B0
  have h3 : (fa == hf) = false ∨ ((fa == hf) = true ∧ ((nx : Int) == hx) = false) ∨ ((fa == hf) = true ∧ ((nx : Int) == hx) = true) := by
    cases (fa == hf) <;> cases ((nx : Int) == hx) <;> simp
  clear hwr hm1 hm2
  rcases h3 with g1 | ⟨g1, g2⟩ | ⟨g1, g2⟩
  all_goals
    go_enter Tryd.func13, Tryd.ntmps13
    go_wp2_with fail
    refine (HB.out _).mono ?_
    rintro e w1 ⟨⟨⟨a1, m1, st1, me1, lo1, fa1, nx1, du1, ch1⟩, hr1, rfl⟩, b1⟩
    have HR := Lib.hid hr1
    clear hr1
    have y1 := Y.out.1.below b1 Y.out.1.lt
    have c0 := (y1).cell 0
    have c1 := (y1).cell 1
    have c2 := (y1).cell 2
    have c3 := (y1).cell 3
    have c4 := (y1).cell 4
    have c5 := (y1).cell 5
    have c6 := (y1).cell 6
    have c7 := (y1).cell 7
    have c8 := (y1).cell 8
    simp only [List.getElem?_toArray, List.getElem?_cons_zero, List.getElem?_cons_succ] at c0 c1 c2 c3 c4 c5 c6 c7 c8
    have f0 := y1.frozen 0
    have f1 := y1.frozen 1
    have f2 := y1.frozen 2
    have f3 := y1.frozen 3
    have f4 := y1.frozen 4
    have f5 := y1.frozen 5
    have f6 := y1.frozen 6
    have f7 := y1.frozen 7
    have f8 := y1.frozen 8
    have z := (((((((((y1.set 0 (.int .u32 a1)).set 1 (.int .i64 m1)).set 2 (.int .i64 st1)).set 3 (.int .i64 me1)).set 4 (.int .i64 lo1)).set 5 (.int .i64 fa1)).set 6 (.int .u32 nx1)).set 7 (.int .i64 du1)).set 8 (.bool ch1))
    simp only [List.setIfInBounds_toArray, List.set_cons_zero, List.set_cons_succ] at z
    have bz : Below w.heap.size w (((((((((w1.setCell ⟨w.heap.size + 1 + 1 + 1, 0, none⟩ (.int .u32 a1)).setCell ⟨w.heap.size + 1 + 1 + 1, 1, none⟩ (.int .i64 m1)).setCell ⟨w.heap.size + 1 + 1 + 1, 2, none⟩ (.int .i64 st1)).setCell ⟨w.heap.size + 1 + 1 + 1, 3, none⟩ (.int .i64 me1)).setCell ⟨w.heap.size + 1 + 1 + 1, 4, none⟩ (.int .i64 lo1)).setCell ⟨w.heap.size + 1 + 1 + 1, 5, none⟩ (.int .i64 fa1)).setCell ⟨w.heap.size + 1 + 1 + 1, 6, none⟩ (.int .u32 nx1)).setCell ⟨w.heap.size + 1 + 1 + 1, 7, none⟩ (.int .i64 du1)).setCell ⟨w.heap.size + 1 + 1 + 1, 8, none⟩ (.bool ch1)) := ((((((((((bnext Y.out.2 b1).setCell (p := ⟨w.heap.size + 1 + 1 + 1, 0, none⟩) (by show w.heap.size ≤ w.heap.size + 1 + 1 + 1; omega) _).setCell (p := ⟨w.heap.size + 1 + 1 + 1, 1, none⟩) (by show w.heap.size ≤ w.heap.size + 1 + 1 + 1; omega) _).setCell (p := ⟨w.heap.size + 1 + 1 + 1, 2, none⟩) (by show w.heap.size ≤ w.heap.size + 1 + 1 + 1; omega) _).setCell (p := ⟨w.heap.size + 1 + 1 + 1, 3, none⟩) (by show w.heap.size ≤ w.heap.size + 1 + 1 + 1; omega) _).setCell (p := ⟨w.heap.size + 1 + 1 + 1, 4, none⟩) (by show w.heap.size ≤ w.heap.size + 1 + 1 + 1; omega) _).setCell (p := ⟨w.heap.size + 1 + 1 + 1, 5, none⟩) (by show w.heap.size ≤ w.heap.size + 1 + 1 + 1; omega) _).setCell (p := ⟨w.heap.size + 1 + 1 + 1, 6, none⟩) (by show w.heap.size ≤ w.heap.size + 1 + 1 + 1; omega) _).setCell (p := ⟨w.heap.size + 1 + 1 + 1, 7, none⟩) (by show w.heap.size ≤ w.heap.size + 1 + 1 + 1; omega) _).setCell (p := ⟨w.heap.size + 1 + 1 + 1, 8, none⟩) (by show w.heap.size ≤ w.heap.size + 1 + 1 + 1; omega) _)
    have QZ := Lib.hid (And.intro z bz)
    clear z bz y1
    go_wp2_with fail
    clear c0 c1 c2 c3 c4 c5 c6 c7 c8 f0 f1 f2 f3 f4 f5 f6 f7 f8
    generalize (((((((((w1.setCell ⟨w.heap.size + 1 + 1 + 1, 0, none⟩ (.int .u32 a1)).setCell ⟨w.heap.size + 1 + 1 + 1, 1, none⟩ (.int .i64 m1)).setCell ⟨w.heap.size + 1 + 1 + 1, 2, none⟩ (.int .i64 st1)).setCell ⟨w.heap.size + 1 + 1 + 1, 3, none⟩ (.int .i64 me1)).setCell ⟨w.heap.size + 1 + 1 + 1, 4, none⟩ (.int .i64 lo1)).setCell ⟨w.heap.size + 1 + 1 + 1, 5, none⟩ (.int .i64 fa1)).setCell ⟨w.heap.size + 1 + 1 + 1, 6, none⟩ (.int .u32 nx1)).setCell ⟨w.heap.size + 1 + 1 + 1, 7, none⟩ (.int .i64 du1)).setCell ⟨w.heap.size + 1 + 1 + 1, 8, none⟩ (.bool ch1)) = wz at *
    have zz := QZ.out.1
    have d0 := (zz).cell 0
    have d1 := (zz).cell 1
    have d2 := (zz).cell 2
    have d3 := (zz).cell 3
    have d4 := (zz).cell 4
    have d5 := (zz).cell 5
    have d6 := (zz).cell 6
    have d7 := (zz).cell 7
    have d8 := (zz).cell 8
    simp only [List.getElem?_toArray, List.getElem?_cons_zero, List.getElem?_cons_succ] at d0 d1 d2 d3 d4 d5 d6 d7 d8
    refine bodyPost_ret (v := .agg #[.int .u32 a1, .int .i64 m1, .int .i64 st1, .int .i64 me1, .int .i64 lo1, .int .i64 fa1, .int .u32 nx1, .int .i64 du1, .bool ch1]) (by simp [results, Tryd.results13, go_sem, d0, d1, d2, d3, d4, d5, d6, d7, d8]) rfl ?_
    exact ⟨⟨_, HR.out, rfl⟩, QZ.out.2⟩

set_option maxHeartbeats 4000000 in
theorem rhear_3b (p j t h g q s cp : Int) (A : Option Addr) (n k : Nat) (a : Nat) (m me lo fa : Int) (nx : Nat) (du : Int) (ch : Bool) (hf : Int) (hx : Nat) (hm : Int) (now : Int) (w : World) (hm1 : 1 ≤ hm) (hm2 : hm ≤ 16) (hwr : IntKind.i64.wrap (now + h) = now + h) (hwt : IntKind.i64.wrap (now + t) = now + t) (e1 : ¬ min (hm + 1) 16 < lo) :
    Calls Tryd.prog 13 #[.agg #[.int .i64 p, .int .i64 j, .int .i64 t, .int .i64 h, .int .i64 g, .int .i64 q, .int .i64 s, .int .i64 cp, .slice A n k], .agg #[.int .u32 a, .int .i64 m, .int .i64 3, .int .i64 me, .int .i64 lo, .int .i64 fa, .int .u32 nx, .int .i64 du, .bool ch], .agg #[.int .i64 hf, .int .u32 hx, .int .i64 hm], .int .i64 now] w fun e w' => (∃ r, r = (⟨a, m, 3, me, lo, fa, nx, du, ch⟩ : Rt) ∧ e = .returned (.agg #[.int .u32 r.a, .int .i64 r.m, .int .i64 r.st, .int .i64 r.me, .int .i64 r.lo, .int .i64 r.fa, .int .u32 r.nx, .int .i64 r.du, .bool r.ch])) ∧ Below w.heap.size w w' := by
  have hwm : IntKind.i64.wrap (hm + 1) = hm + 1 := IntWalk.i64_in _ ⟨by omega, by omega⟩
  have hmn : min 16 (hm + 1) = min (hm + 1) 16 := Int.min_comm _ _
  have de1 : decide (min (hm + 1) 16 < lo) = false := by simp; omega
  clear e1
  have h3 : (fa == hf) = false ∨ ((fa == hf) = true ∧ ((nx : Int) == hx) = false) ∨ ((fa == hf) = true ∧ ((nx : Int) == hx) = true) := by
    cases (fa == hf) <;> cases ((nx : Int) == hx) <;> simp
  clear hwr hm1 hm2
  rcases h3 with g1 | ⟨g1, g2⟩ | ⟨g1, g2⟩
  all_goals
    go_enter Tryd.func13, Tryd.ntmps13
    go_wp2_with fail
    go_returns
    exact ⟨⟨_, rfl, rfl⟩, by go_grown⟩

set_option maxHeartbeats 4000000 in
theorem rhear_0a (p j t h g q s cp : Int) (A : Option Addr) (n k : Nat) (a : Nat) (m me lo fa : Int) (nx : Nat) (du : Int) (ch : Bool) (hf : Int) (hx : Nat) (hm : Int) (now : Int) (w : World) (hm1 : 1 ≤ hm) (hm2 : hm ≤ 16) (hwr : IntKind.i64.wrap (now + h) = now + h) (hwt : IntKind.i64.wrap (now + t) = now + t) (e1 : min (hm + 1) 16 < 16) :
    Calls Tryd.prog 13 #[.agg #[.int .i64 p, .int .i64 j, .int .i64 t, .int .i64 h, .int .i64 g, .int .i64 q, .int .i64 s, .int .i64 cp, .slice A n k], .agg #[.int .u32 a, .int .i64 m, .int .i64 0, .int .i64 me, .int .i64 lo, .int .i64 fa, .int .u32 nx, .int .i64 du, .bool ch], .agg #[.int .i64 hf, .int .u32 hx, .int .i64 hm], .int .i64 now] w fun e w' => (∃ r, r = becR t ⟨a, m, 0, me, lo, fa, nx, du, ch⟩ hf hx (min (hm + 1) 16) now ∧ e = .returned (.agg #[.int .u32 r.a, .int .i64 r.m, .int .i64 r.st, .int .i64 r.me, .int .i64 r.lo, .int .i64 r.fa, .int .u32 r.nx, .int .i64 r.du, .bool r.ch])) ∧ Below w.heap.size w w' := by
  have hwm : IntKind.i64.wrap (hm + 1) = hm + 1 := IntWalk.i64_in _ ⟨by omega, by omega⟩
  have hmn : min 16 (hm + 1) = min (hm + 1) 16 := Int.min_comm _ _
  have de1 : decide (min (hm + 1) 16 < 16) = true := by simp; omega
  clear e1
  have HB := Lib.hid (fun W => become_any p j t h g q s cp A n k a m 0 me lo fa nx du ch hf hx hm (min (hm + 1) 16) now W hwt)
  have y := Blk.new (((w.alloc (.cells #[.int .i64 p, .int .i64 j, .int .i64 t, .int .i64 h, .int .i64 g, .int .i64 q, .int .i64 s, .int .i64 cp, .slice A n k] 24)).alloc (.cells #[.int .u32 a, .int .i64 m, .int .i64 0, .int .i64 me, .int .i64 lo, .int .i64 fa, .int .u32 nx, .int .i64 du, .bool ch] 31)).alloc (.cells #[.int .i64 hf, .int .u32 hx, .int .i64 hm] 33)) 31 #[.int .u32 0, .int .i64 0, .int .i64 0, .int .i64 0, .int .i64 0, .int .i64 0, .int .u32 0, .int .i64 0, .bool false]
  simp only [World.size_alloc] at y
  have B0 : Below w.heap.size w ((((w.alloc (.cells #[.int .i64 p, .int .i64 j, .int .i64 t, .int .i64 h, .int .i64 g, .int .i64 q, .int .i64 s, .int .i64 cp, .slice A n k] 24)).alloc (.cells #[.int .u32 a, .int .i64 m, .int .i64 0, .int .i64 me, .int .i64 lo, .int .i64 fa, .int .u32 nx, .int .i64 du, .bool ch] 31)).alloc (.cells #[.int .i64 hf, .int .u32 hx, .int .i64 hm] 33)).alloc (.cells #[.int .u32 0, .int .i64 0, .int .i64 0, .int .i64 0, .int .i64 0, .int .i64 0, .int .u32 0, .int .i64 0, .bool false] 31)) := balloc (balloc (balloc (balloc (Below.refl _ _) _) _) _) _
  have Y := Lib.hid (And.intro y B0)
  clear y B0
  have h3 : (fa == hf) = false ∨ ((fa == hf) = true ∧ ((nx : Int) == hx) = false) ∨ ((fa == hf) = true ∧ ((nx : Int) == hx) = true) := by
    cases (fa == hf) <;> cases ((nx : Int) == hx) <;> simp
  clear hwr hm1 hm2
  rcases h3 with g1 | ⟨g1, g2⟩ | ⟨g1, g2⟩
  all_goals
    go_enter Tryd.func13, Tryd.ntmps13
    go_wp2_with fail
    refine (HB.out _).mono ?_
    rintro e w1 ⟨⟨⟨a1, m1, st1, me1, lo1, fa1, nx1, du1, ch1⟩, hr1, rfl⟩, b1⟩
    have HR := Lib.hid hr1
    clear hr1
    have y1 := Y.out.1.below b1 Y.out.1.lt
    have c0 := (y1).cell 0
    have c1 := (y1).cell 1
    have c2 := (y1).cell 2
    have c3 := (y1).cell 3
    have c4 := (y1).cell 4
    have c5 := (y1).cell 5
    have c6 := (y1).cell 6
    have c7 := (y1).cell 7
    have c8 := (y1).cell 8
    simp only [List.getElem?_toArray, List.getElem?_cons_zero, List.getElem?_cons_succ] at c0 c1 c2 c3 c4 c5 c6 c7 c8
    have f0 := y1.frozen 0
    have f1 := y1.frozen 1
    have f2 := y1.frozen 2
    have f3 := y1.frozen 3
    have f4 := y1.frozen 4
    have f5 := y1.frozen 5
    have f6 := y1.frozen 6
    have f7 := y1.frozen 7
    have f8 := y1.frozen 8
    have z := (((((((((y1.set 0 (.int .u32 a1)).set 1 (.int .i64 m1)).set 2 (.int .i64 st1)).set 3 (.int .i64 me1)).set 4 (.int .i64 lo1)).set 5 (.int .i64 fa1)).set 6 (.int .u32 nx1)).set 7 (.int .i64 du1)).set 8 (.bool ch1))
    simp only [List.setIfInBounds_toArray, List.set_cons_zero, List.set_cons_succ] at z
    have bz : Below w.heap.size w (((((((((w1.setCell ⟨w.heap.size + 1 + 1 + 1, 0, none⟩ (.int .u32 a1)).setCell ⟨w.heap.size + 1 + 1 + 1, 1, none⟩ (.int .i64 m1)).setCell ⟨w.heap.size + 1 + 1 + 1, 2, none⟩ (.int .i64 st1)).setCell ⟨w.heap.size + 1 + 1 + 1, 3, none⟩ (.int .i64 me1)).setCell ⟨w.heap.size + 1 + 1 + 1, 4, none⟩ (.int .i64 lo1)).setCell ⟨w.heap.size + 1 + 1 + 1, 5, none⟩ (.int .i64 fa1)).setCell ⟨w.heap.size + 1 + 1 + 1, 6, none⟩ (.int .u32 nx1)).setCell ⟨w.heap.size + 1 + 1 + 1, 7, none⟩ (.int .i64 du1)).setCell ⟨w.heap.size + 1 + 1 + 1, 8, none⟩ (.bool ch1)) := ((((((((((bnext Y.out.2 b1).setCell (p := ⟨w.heap.size + 1 + 1 + 1, 0, none⟩) (by show w.heap.size ≤ w.heap.size + 1 + 1 + 1; omega) _).setCell (p := ⟨w.heap.size + 1 + 1 + 1, 1, none⟩) (by show w.heap.size ≤ w.heap.size + 1 + 1 + 1; omega) _).setCell (p := ⟨w.heap.size + 1 + 1 + 1, 2, none⟩) (by show w.heap.size ≤ w.heap.size + 1 + 1 + 1; omega) _).setCell (p := ⟨w.heap.size + 1 + 1 + 1, 3, none⟩) (by show w.heap.size ≤ w.heap.size + 1 + 1 + 1; omega) _).setCell (p := ⟨w.heap.size + 1 + 1 + 1, 4, none⟩) (by show w.heap.size ≤ w.heap.size + 1 + 1 + 1; omega) _).setCell (p := ⟨w.heap.size + 1 + 1 + 1, 5, none⟩) (by show w.heap.size ≤ w.heap.size + 1 + 1 + 1; omega) _).setCell (p := ⟨w.heap.size + 1 + 1 + 1, 6, none⟩) (by show w.heap.size ≤ w.heap.size + 1 + 1 + 1; omega) _).setCell (p := ⟨w.heap.size + 1 + 1 + 1, 7, none⟩) (by show w.heap.size ≤ w.heap.size + 1 + 1 + 1; omega) _).setCell (p := ⟨w.heap.size + 1 + 1 + 1, 8, none⟩) (by show w.heap.size ≤ w.heap.size + 1 + 1 + 1; omega) _)
    have QZ := Lib.hid (And.intro z bz)
    clear z bz y1
    go_wp2_with fail
    clear c0 c1 c2 c3 c4 c5 c6 c7 c8 f0 f1 f2 f3 f4 f5 f6 f7 f8
    generalize (((((((((w1.setCell ⟨w.heap.size + 1 + 1 + 1, 0, none⟩ (.int .u32 a1)).setCell ⟨w.heap.size + 1 + 1 + 1, 1, none⟩ (.int .i64 m1)).setCell ⟨w.heap.size + 1 + 1 + 1, 2, none⟩ (.int .i64 st1)).setCell ⟨w.heap.size + 1 + 1 + 1, 3, none⟩ (.int .i64 me1)).setCell ⟨w.heap.size + 1 + 1 + 1, 4, none⟩ (.int .i64 lo1)).setCell ⟨w.heap.size + 1 + 1 + 1, 5, none⟩ (.int .i64 fa1)).setCell ⟨w.heap.size + 1 + 1 + 1, 6, none⟩ (.int .u32 nx1)).setCell ⟨w.heap.size + 1 + 1 + 1, 7, none⟩ (.int .i64 du1)).setCell ⟨w.heap.size + 1 + 1 + 1, 8, none⟩ (.bool ch1)) = wz at *
    have zz := QZ.out.1
    have d0 := (zz).cell 0
    have d1 := (zz).cell 1
    have d2 := (zz).cell 2
    have d3 := (zz).cell 3
    have d4 := (zz).cell 4
    have d5 := (zz).cell 5
    have d6 := (zz).cell 6
    have d7 := (zz).cell 7
    have d8 := (zz).cell 8
    simp only [List.getElem?_toArray, List.getElem?_cons_zero, List.getElem?_cons_succ] at d0 d1 d2 d3 d4 d5 d6 d7 d8
    refine bodyPost_ret (v := .agg #[.int .u32 a1, .int .i64 m1, .int .i64 st1, .int .i64 me1, .int .i64 lo1, .int .i64 fa1, .int .u32 nx1, .int .i64 du1, .bool ch1]) (by simp [results, Tryd.results13, go_sem, d0, d1, d2, d3, d4, d5, d6, d7, d8]) rfl ?_
    exact ⟨⟨_, HR.out, rfl⟩, QZ.out.2⟩

set_option maxHeartbeats 4000000 in
theorem rhear_0b (p j t h g q s cp : Int) (A : Option Addr) (n k : Nat) (a : Nat) (m me lo fa : Int) (nx : Nat) (du : Int) (ch : Bool) (hf : Int) (hx : Nat) (hm : Int) (now : Int) (w : World) (hm1 : 1 ≤ hm) (hm2 : hm ≤ 16) (hwr : IntKind.i64.wrap (now + h) = now + h) (hwt : IntKind.i64.wrap (now + t) = now + t) (e1 : ¬ min (hm + 1) 16 < 16) :
    Calls Tryd.prog 13 #[.agg #[.int .i64 p, .int .i64 j, .int .i64 t, .int .i64 h, .int .i64 g, .int .i64 q, .int .i64 s, .int .i64 cp, .slice A n k], .agg #[.int .u32 a, .int .i64 m, .int .i64 0, .int .i64 me, .int .i64 lo, .int .i64 fa, .int .u32 nx, .int .i64 du, .bool ch], .agg #[.int .i64 hf, .int .u32 hx, .int .i64 hm], .int .i64 now] w fun e w' => (∃ r, r = (⟨a, m, 0, me, lo, fa, nx, du, ch⟩ : Rt) ∧ e = .returned (.agg #[.int .u32 r.a, .int .i64 r.m, .int .i64 r.st, .int .i64 r.me, .int .i64 r.lo, .int .i64 r.fa, .int .u32 r.nx, .int .i64 r.du, .bool r.ch])) ∧ Below w.heap.size w w' := by
  have hwm : IntKind.i64.wrap (hm + 1) = hm + 1 := IntWalk.i64_in _ ⟨by omega, by omega⟩
  have hmn : min 16 (hm + 1) = min (hm + 1) 16 := Int.min_comm _ _
  have de1 : decide (min (hm + 1) 16 < 16) = false := by simp; omega
  clear e1
  have h3 : (fa == hf) = false ∨ ((fa == hf) = true ∧ ((nx : Int) == hx) = false) ∨ ((fa == hf) = true ∧ ((nx : Int) == hx) = true) := by
    cases (fa == hf) <;> cases ((nx : Int) == hx) <;> simp
  clear hwr hm1 hm2
  rcases h3 with g1 | ⟨g1, g2⟩ | ⟨g1, g2⟩
  all_goals
    go_enter Tryd.func13, Tryd.ntmps13
    go_wp2_with fail
    go_returns
    exact ⟨⟨_, rfl, rfl⟩, by go_grown⟩

set_option maxHeartbeats 4000000 in
theorem rhear_4a (p j t h g q s cp : Int) (A : Option Addr) (n k : Nat) (a : Nat) (m me lo fa : Int) (nx : Nat) (du : Int) (ch : Bool) (hf : Int) (hx : Nat) (hm : Int) (now : Int) (w : World) (hm1 : 1 ≤ hm) (hm2 : hm ≤ 16) (hwr : IntKind.i64.wrap (now + h) = now + h) (hwt : IntKind.i64.wrap (now + t) = now + t) (e1 : min (hm + 1) 16 < 16) :
    Calls Tryd.prog 13 #[.agg #[.int .i64 p, .int .i64 j, .int .i64 t, .int .i64 h, .int .i64 g, .int .i64 q, .int .i64 s, .int .i64 cp, .slice A n k], .agg #[.int .u32 a, .int .i64 m, .int .i64 4, .int .i64 me, .int .i64 lo, .int .i64 fa, .int .u32 nx, .int .i64 du, .bool ch], .agg #[.int .i64 hf, .int .u32 hx, .int .i64 hm], .int .i64 now] w fun e w' => (∃ r, r = becR t ⟨a, m, 4, me, lo, fa, nx, du, ch⟩ hf hx (min (hm + 1) 16) now ∧ e = .returned (.agg #[.int .u32 r.a, .int .i64 r.m, .int .i64 r.st, .int .i64 r.me, .int .i64 r.lo, .int .i64 r.fa, .int .u32 r.nx, .int .i64 r.du, .bool r.ch])) ∧ Below w.heap.size w w' := by
  have hwm : IntKind.i64.wrap (hm + 1) = hm + 1 := IntWalk.i64_in _ ⟨by omega, by omega⟩
  have hmn : min 16 (hm + 1) = min (hm + 1) 16 := Int.min_comm _ _
  have de1 : decide (min (hm + 1) 16 < 16) = true := by simp; omega
  clear e1
  have HB := Lib.hid (fun W => become_any p j t h g q s cp A n k a m 4 me lo fa nx du ch hf hx hm (min (hm + 1) 16) now W hwt)
  have y := Blk.new (((w.alloc (.cells #[.int .i64 p, .int .i64 j, .int .i64 t, .int .i64 h, .int .i64 g, .int .i64 q, .int .i64 s, .int .i64 cp, .slice A n k] 24)).alloc (.cells #[.int .u32 a, .int .i64 m, .int .i64 4, .int .i64 me, .int .i64 lo, .int .i64 fa, .int .u32 nx, .int .i64 du, .bool ch] 31)).alloc (.cells #[.int .i64 hf, .int .u32 hx, .int .i64 hm] 33)) 31 #[.int .u32 0, .int .i64 0, .int .i64 0, .int .i64 0, .int .i64 0, .int .i64 0, .int .u32 0, .int .i64 0, .bool false]
  simp only [World.size_alloc] at y
  have B0 : Below w.heap.size w ((((w.alloc (.cells #[.int .i64 p, .int .i64 j, .int .i64 t, .int .i64 h, .int .i64 g, .int .i64 q, .int .i64 s, .int .i64 cp, .slice A n k] 24)).alloc (.cells #[.int .u32 a, .int .i64 m, .int .i64 4, .int .i64 me, .int .i64 lo, .int .i64 fa, .int .u32 nx, .int .i64 du, .bool ch] 31)).alloc (.cells #[.int .i64 hf, .int .u32 hx, .int .i64 hm] 33)).alloc (.cells #[.int .u32 0, .int .i64 0, .int .i64 0, .int .i64 0, .int .i64 0, .int .i64 0, .int .u32 0, .int .i64 0, .bool false] 31)) := balloc (balloc (balloc (balloc (Below.refl _ _) _) _) _) _
  have Y := Lib.hid (And.intro y B0)
  clear y B0
  have h3 : (fa == hf) = false ∨ ((fa == hf) = true ∧ ((nx : Int) == hx) = false) ∨ ((fa == hf) = true ∧ ((nx : Int) == hx) = true) := by
    cases (fa == hf) <;> cases ((nx : Int) == hx) <;> simp
  clear hwr hm1 hm2
  rcases h3 with g1 | ⟨g1, g2⟩ | ⟨g1, g2⟩
  all_goals
    go_enter Tryd.func13, Tryd.ntmps13
    go_wp2_with fail
    refine (HB.out _).mono ?_
    rintro e w1 ⟨⟨⟨a1, m1, st1, me1, lo1, fa1, nx1, du1, ch1⟩, hr1, rfl⟩, b1⟩
    have HR := Lib.hid hr1
    clear hr1
    have y1 := Y.out.1.below b1 Y.out.1.lt
    have c0 := (y1).cell 0
    have c1 := (y1).cell 1
    have c2 := (y1).cell 2
    have c3 := (y1).cell 3
    have c4 := (y1).cell 4
    have c5 := (y1).cell 5
    have c6 := (y1).cell 6
    have c7 := (y1).cell 7
    have c8 := (y1).cell 8
    simp only [List.getElem?_toArray, List.getElem?_cons_zero, List.getElem?_cons_succ] at c0 c1 c2 c3 c4 c5 c6 c7 c8
    have f0 := y1.frozen 0
    have f1 := y1.frozen 1
    have f2 := y1.frozen 2
    have f3 := y1.frozen 3
    have f4 := y1.frozen 4
    have f5 := y1.frozen 5
    have f6 := y1.frozen 6
    have f7 := y1.frozen 7
    have f8 := y1.frozen 8
    have z := (((((((((y1.set 0 (.int .u32 a1)).set 1 (.int .i64 m1)).set 2 (.int .i64 st1)).set 3 (.int .i64 me1)).set 4 (.int .i64 lo1)).set 5 (.int .i64 fa1)).set 6 (.int .u32 nx1)).set 7 (.int .i64 du1)).set 8 (.bool ch1))
    simp only [List.setIfInBounds_toArray, List.set_cons_zero, List.set_cons_succ] at z
    have bz : Below w.heap.size w (((((((((w1.setCell ⟨w.heap.size + 1 + 1 + 1, 0, none⟩ (.int .u32 a1)).setCell ⟨w.heap.size + 1 + 1 + 1, 1, none⟩ (.int .i64 m1)).setCell ⟨w.heap.size + 1 + 1 + 1, 2, none⟩ (.int .i64 st1)).setCell ⟨w.heap.size + 1 + 1 + 1, 3, none⟩ (.int .i64 me1)).setCell ⟨w.heap.size + 1 + 1 + 1, 4, none⟩ (.int .i64 lo1)).setCell ⟨w.heap.size + 1 + 1 + 1, 5, none⟩ (.int .i64 fa1)).setCell ⟨w.heap.size + 1 + 1 + 1, 6, none⟩ (.int .u32 nx1)).setCell ⟨w.heap.size + 1 + 1 + 1, 7, none⟩ (.int .i64 du1)).setCell ⟨w.heap.size + 1 + 1 + 1, 8, none⟩ (.bool ch1)) := ((((((((((bnext Y.out.2 b1).setCell (p := ⟨w.heap.size + 1 + 1 + 1, 0, none⟩) (by show w.heap.size ≤ w.heap.size + 1 + 1 + 1; omega) _).setCell (p := ⟨w.heap.size + 1 + 1 + 1, 1, none⟩) (by show w.heap.size ≤ w.heap.size + 1 + 1 + 1; omega) _).setCell (p := ⟨w.heap.size + 1 + 1 + 1, 2, none⟩) (by show w.heap.size ≤ w.heap.size + 1 + 1 + 1; omega) _).setCell (p := ⟨w.heap.size + 1 + 1 + 1, 3, none⟩) (by show w.heap.size ≤ w.heap.size + 1 + 1 + 1; omega) _).setCell (p := ⟨w.heap.size + 1 + 1 + 1, 4, none⟩) (by show w.heap.size ≤ w.heap.size + 1 + 1 + 1; omega) _).setCell (p := ⟨w.heap.size + 1 + 1 + 1, 5, none⟩) (by show w.heap.size ≤ w.heap.size + 1 + 1 + 1; omega) _).setCell (p := ⟨w.heap.size + 1 + 1 + 1, 6, none⟩) (by show w.heap.size ≤ w.heap.size + 1 + 1 + 1; omega) _).setCell (p := ⟨w.heap.size + 1 + 1 + 1, 7, none⟩) (by show w.heap.size ≤ w.heap.size + 1 + 1 + 1; omega) _).setCell (p := ⟨w.heap.size + 1 + 1 + 1, 8, none⟩) (by show w.heap.size ≤ w.heap.size + 1 + 1 + 1; omega) _)
    have QZ := Lib.hid (And.intro z bz)
    clear z bz y1
    go_wp2_with fail
    clear c0 c1 c2 c3 c4 c5 c6 c7 c8 f0 f1 f2 f3 f4 f5 f6 f7 f8
    generalize (((((((((w1.setCell ⟨w.heap.size + 1 + 1 + 1, 0, none⟩ (.int .u32 a1)).setCell ⟨w.heap.size + 1 + 1 + 1, 1, none⟩ (.int .i64 m1)).setCell ⟨w.heap.size + 1 + 1 + 1, 2, none⟩ (.int .i64 st1)).setCell ⟨w.heap.size + 1 + 1 + 1, 3, none⟩ (.int .i64 me1)).setCell ⟨w.heap.size + 1 + 1 + 1, 4, none⟩ (.int .i64 lo1)).setCell ⟨w.heap.size + 1 + 1 + 1, 5, none⟩ (.int .i64 fa1)).setCell ⟨w.heap.size + 1 + 1 + 1, 6, none⟩ (.int .u32 nx1)).setCell ⟨w.heap.size + 1 + 1 + 1, 7, none⟩ (.int .i64 du1)).setCell ⟨w.heap.size + 1 + 1 + 1, 8, none⟩ (.bool ch1)) = wz at *
    have zz := QZ.out.1
    have d0 := (zz).cell 0
    have d1 := (zz).cell 1
    have d2 := (zz).cell 2
    have d3 := (zz).cell 3
    have d4 := (zz).cell 4
    have d5 := (zz).cell 5
    have d6 := (zz).cell 6
    have d7 := (zz).cell 7
    have d8 := (zz).cell 8
    simp only [List.getElem?_toArray, List.getElem?_cons_zero, List.getElem?_cons_succ] at d0 d1 d2 d3 d4 d5 d6 d7 d8
    refine bodyPost_ret (v := .agg #[.int .u32 a1, .int .i64 m1, .int .i64 st1, .int .i64 me1, .int .i64 lo1, .int .i64 fa1, .int .u32 nx1, .int .i64 du1, .bool ch1]) (by simp [results, Tryd.results13, go_sem, d0, d1, d2, d3, d4, d5, d6, d7, d8]) rfl ?_
    exact ⟨⟨_, HR.out, rfl⟩, QZ.out.2⟩

set_option maxHeartbeats 4000000 in
theorem rhear_4b (p j t h g q s cp : Int) (A : Option Addr) (n k : Nat) (a : Nat) (m me lo fa : Int) (nx : Nat) (du : Int) (ch : Bool) (hf : Int) (hx : Nat) (hm : Int) (now : Int) (w : World) (hm1 : 1 ≤ hm) (hm2 : hm ≤ 16) (hwr : IntKind.i64.wrap (now + h) = now + h) (hwt : IntKind.i64.wrap (now + t) = now + t) (e1 : ¬ min (hm + 1) 16 < 16) :
    Calls Tryd.prog 13 #[.agg #[.int .i64 p, .int .i64 j, .int .i64 t, .int .i64 h, .int .i64 g, .int .i64 q, .int .i64 s, .int .i64 cp, .slice A n k], .agg #[.int .u32 a, .int .i64 m, .int .i64 4, .int .i64 me, .int .i64 lo, .int .i64 fa, .int .u32 nx, .int .i64 du, .bool ch], .agg #[.int .i64 hf, .int .u32 hx, .int .i64 hm], .int .i64 now] w fun e w' => (∃ r, r = (⟨a, m, 4, me, lo, fa, nx, du, ch⟩ : Rt) ∧ e = .returned (.agg #[.int .u32 r.a, .int .i64 r.m, .int .i64 r.st, .int .i64 r.me, .int .i64 r.lo, .int .i64 r.fa, .int .u32 r.nx, .int .i64 r.du, .bool r.ch])) ∧ Below w.heap.size w w' := by
  have hwm : IntKind.i64.wrap (hm + 1) = hm + 1 := IntWalk.i64_in _ ⟨by omega, by omega⟩
  have hmn : min 16 (hm + 1) = min (hm + 1) 16 := Int.min_comm _ _
  have de1 : decide (min (hm + 1) 16 < 16) = false := by simp; omega
  clear e1
  have h3 : (fa == hf) = false ∨ ((fa == hf) = true ∧ ((nx : Int) == hx) = false) ∨ ((fa == hf) = true ∧ ((nx : Int) == hx) = true) := by
    cases (fa == hf) <;> cases ((nx : Int) == hx) <;> simp
  clear hwr hm1 hm2
  rcases h3 with g1 | ⟨g1, g2⟩ | ⟨g1, g2⟩
  all_goals
    go_enter Tryd.func13, Tryd.ntmps13
    go_wp2_with fail
    go_returns
    exact ⟨⟨_, rfl, rfl⟩, by go_grown⟩

theorem rhear_any (p j t h g q s cp : Int) (A : Option Addr) (n k : Nat) (a : Nat) (m st me lo fa : Int) (nx : Nat) (du : Int) (ch : Bool) (hf : Int) (hx : Nat) (hm : Int) (now : Int) (w : World) (hst : 0 ≤ st ∧ st ≤ 4) (hm1 : 1 ≤ hm) (hm2 : hm ≤ 16) (hwr : IntKind.i64.wrap (now + h) = now + h) (hwt : IntKind.i64.wrap (now + t) = now + t) :
    Calls Tryd.prog 13 #[.agg #[.int .i64 p, .int .i64 j, .int .i64 t, .int .i64 h, .int .i64 g, .int .i64 q, .int .i64 s, .int .i64 cp, .slice A n k], .agg #[.int .u32 a, .int .i64 m, .int .i64 st, .int .i64 me, .int .i64 lo, .int .i64 fa, .int .u32 nx, .int .i64 du, .bool ch], .agg #[.int .i64 hf, .int .u32 hx, .int .i64 hm], .int .i64 now] w fun e w' => (∃ r, r = hearR t h ⟨a, m, st, me, lo, fa, nx, du, ch⟩ hf hx hm now ∧ e = .returned (.agg #[.int .u32 r.a, .int .i64 r.m, .int .i64 r.st, .int .i64 r.me, .int .i64 r.lo, .int .i64 r.fa, .int .u32 r.nx, .int .i64 r.du, .bool r.ch])) ∧ Below w.heap.size w w' := by
  rcases (by omega : st = 0 ∨ st = 1 ∨ st = 2 ∨ st = 3 ∨ st = 4) with rfl | rfl | rfl | rfl | rfl
  · by_cases e1 : min (hm + 1) 16 < 16
    · rw [show hearR t h ⟨a, m, 0, me, lo, fa, nx, du, ch⟩ hf hx hm now = _ from if_pos e1]
      exact rhear_0a p j t h g q s cp A n k a m me lo fa nx du ch hf hx hm now w hm1 hm2 hwr hwt e1
    · rw [show hearR t h ⟨a, m, 0, me, lo, fa, nx, du, ch⟩ hf hx hm now = _ from if_neg e1]
      exact rhear_0b p j t h g q s cp A n k a m me lo fa nx du ch hf hx hm now w hm1 hm2 hwr hwt e1
  · exact rhear_1 p j t h g q s cp A n k a m me lo fa nx du ch hf hx hm now w hm1 hm2 hwr hwt 
  · by_cases e0 : hf = fa
    · by_cases e3 : hx = nx
      · subst e0 e3
        by_cases e1 : min (hm + 1) 16 = me
        · rw [show hearR t h ⟨a, m, 2, me, lo, hf, hx, du, ch⟩ hf hx hm now = ⟨a, m, 2, me, lo, hf, hx, now + t, ch⟩ from (if_pos ⟨rfl, rfl⟩).trans (if_pos e1)]
          exact rhear_2a p j t h g q s cp A n k a m me lo hf hx du ch  hm now w hm1 hm2 hwr hwt e1
        · by_cases e2 : min (hm + 1) 16 = 16
          · rw [show hearR t h ⟨a, m, 2, me, lo, hf, hx, du, ch⟩ hf hx hm now = _ from (if_pos ⟨rfl, rfl⟩).trans ((if_neg e1).trans (if_pos e2))]
            exact rhear_2b p j t h g q s cp A n k a m me lo hf hx du ch  hm now w hm1 hm2 hwr hwt e1 e2
          · rw [show hearR t h ⟨a, m, 2, me, lo, hf, hx, du, ch⟩ hf hx hm now = _ from (if_pos ⟨rfl, rfl⟩).trans ((if_neg e1).trans (if_neg e2))]
            exact rhear_2c p j t h g q s cp A n k a m me lo hf hx du ch  hm now w hm1 hm2 hwr hwt e1 e2
      · subst e0
        by_cases e1 : min (hm + 1) 16 < me
        · rw [show hearR t h ⟨a, m, 2, me, lo, hf, nx, du, ch⟩ hf hx hm now = _ from (if_neg (fun x => e3 x.2)).trans (if_pos e1)]
          exact rhear_2d p j t h g q s cp A n k a m me lo hf nx du ch hx hm now w hm1 hm2 hwr hwt e3 e1
        · rw [show hearR t h ⟨a, m, 2, me, lo, hf, nx, du, ch⟩ hf hx hm now = _ from (if_neg (fun x => e3 x.2)).trans (if_neg e1)]
          exact rhear_2e p j t h g q s cp A n k a m me lo hf nx du ch hx hm now w hm1 hm2 hwr hwt e3 e1
    · by_cases e1 : min (hm + 1) 16 < me
      · rw [show hearR t h ⟨a, m, 2, me, lo, fa, nx, du, ch⟩ hf hx hm now = _ from (if_neg (fun x => e0 x.1)).trans (if_pos e1)]
        exact rhear_2f p j t h g q s cp A n k a m me lo fa nx du ch hf hx hm now w hm1 hm2 hwr hwt e0 e1
      · rw [show hearR t h ⟨a, m, 2, me, lo, fa, nx, du, ch⟩ hf hx hm now = _ from (if_neg (fun x => e0 x.1)).trans (if_neg e1)]
        exact rhear_2g p j t h g q s cp A n k a m me lo fa nx du ch hf hx hm now w hm1 hm2 hwr hwt e0 e1
  · by_cases e1 : min (hm + 1) 16 < lo
    · rw [show hearR t h ⟨a, m, 3, me, lo, fa, nx, du, ch⟩ hf hx hm now = _ from if_pos e1]
      exact rhear_3a p j t h g q s cp A n k a m me lo fa nx du ch hf hx hm now w hm1 hm2 hwr hwt e1
    · rw [show hearR t h ⟨a, m, 3, me, lo, fa, nx, du, ch⟩ hf hx hm now = _ from if_neg e1]
      exact rhear_3b p j t h g q s cp A n k a m me lo fa nx du ch hf hx hm now w hm1 hm2 hwr hwt e1
  · by_cases e1 : min (hm + 1) 16 < 16
    · rw [show hearR t h ⟨a, m, 4, me, lo, fa, nx, du, ch⟩ hf hx hm now = _ from if_pos e1]
      exact rhear_4a p j t h g q s cp A n k a m me lo fa nx du ch hf hx hm now w hm1 hm2 hwr hwt e1
    · rw [show hearR t h ⟨a, m, 4, me, lo, fa, nx, du, ch⟩ hf hx hm now = _ from if_neg e1]
      exact rhear_4b p j t h g q s cp A n k a m me lo fa nx du ch hf hx hm now w hm1 hm2 hwr hwt e1
end Go.Proofs.YtgjeejdebneoaaaDoor
