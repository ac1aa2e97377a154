/- route: may a route be (Check)? -/
import Derived.Test.YtgjeejdebneoaaaDoorRo3
namespace Go.Proofs.YtgjeejdebneoaaaDoor
set_option linter.unusedVariables false
set_option linter.unusedSimpArgs false
open Go.RowKit
set_option maxRecDepth 100000
theorem ret_i {x y : Int} (h : x = y) : Ending.returned (.int .i64 x) = .returned (.int .i64 y) := by rw [h]
theorem below_of_drew {w w' : World} (h : Below w.drew.heap.size w.drew w') : Below w.heap.size w w' := bnext (below_drewN (Below.refl w.heap.size w) 1) h

set_option maxHeartbeats 2000000 in
theorem rcheck_no (a : Nat) (m st me lo fa : Int) (nx : Nat) (du : Int) (ch : Bool) (w : World) (h : ¬ (0 ≤ st ∧ st ≤ 4)) :
    Calls Tryd.prog 16 #[.agg #[.int .u32 a, .int .i64 m, .int .i64 st, .int .i64 me, .int .i64 lo, .int .i64 fa, .int .u32 nx, .int .i64 du, .bool ch]] w fun e w' => e = .returned (.int .i64 2) ∧ Below w.heap.size w w' := by
  have HS := Lib.hid (fun W => states_any W)
  have y0 := (Blk.new w 31 #[.int .u32 a, .int .i64 m, .int .i64 st, .int .i64 me, .int .i64 lo, .int .i64 fa, .int .u32 nx, .int .i64 du, .bool ch]).alloc (.cells #[.int .u32 a, .int .i64 m, .int .i64 st, .int .i64 me, .int .i64 lo, .int .i64 fa, .int .u32 nx, .int .i64 du, .bool ch] 78)
  have y1 := Blk.new (w.alloc (.cells #[.int .u32 a, .int .i64 m, .int .i64 st, .int .i64 me, .int .i64 lo, .int .i64 fa, .int .u32 nx, .int .i64 du, .bool ch] 31)) 78 #[.int .u32 a, .int .i64 m, .int .i64 st, .int .i64 me, .int .i64 lo, .int .i64 fa, .int .u32 nx, .int .i64 du, .bool ch]
  rw [World.size_alloc] at y1
  have b0 : Below w.heap.size w ((w.alloc (.cells #[.int .u32 a, .int .i64 m, .int .i64 st, .int .i64 me, .int .i64 lo, .int .i64 fa, .int .u32 nx, .int .i64 du, .bool ch] 31)).alloc (.cells #[.int .u32 a, .int .i64 m, .int .i64 st, .int .i64 me, .int .i64 lo, .int .i64 fa, .int .u32 nx, .int .i64 du, .bool ch] 78)) := balloc (balloc (Below.refl _ _) _) _
  have HL := Lib.hid (fun b W hb => lkS_not b st W hb h)
  have Y := Lib.hid (And.intro y0 (And.intro y1 b0))
  clear h y0 y1 b0
  go_enter Tryd.func16, Tryd.ntmps16
  go_wp2_with fail
  generalize ((w.alloc (.cells #[.int .u32 a, .int .i64 m, .int .i64 st, .int .i64 me, .int .i64 lo, .int .i64 fa, .int .u32 nx, .int .i64 du, .bool ch] 31)).alloc (.cells #[.int .u32 a, .int .i64 m, .int .i64 st, .int .i64 me, .int .i64 lo, .int .i64 fa, .int .u32 nx, .int .i64 du, .bool ch] 78)) = W0 at *
  have c2 := Y.out.1.cell 2
  simp only [List.getElem?_toArray, List.getElem?_cons_zero, List.getElem?_cons_succ] at c2
  go_region_held3 (fun W => W.cell? ⟨w.heap.size, 2, none⟩ = some (.int .i64 st)) (first | exact c2 | exact c3)
    (first | (go_at_call 40; refine (HS.out _).mono ?_; rintro e w1 ⟨rfl, hm1, b1⟩; have hlk := HL.out W0.heap.size w1 hm1; have y3 := Blk.below (w := W0.drew) Y.out.1 b1 Y.out.1.lt; have c3 := y3.cell 2; simp only [List.getElem?_toArray, List.getElem?_cons_zero, List.getElem?_cons_succ] at c3))
  have y4 := Blk.below (w := W0.drew) Y.out.2.1 b1 Y.out.2.1.lt
  have BB : Below w.heap.size w w1 := bnext Y.out.2.2 (below_of_drew b1)
  clear Y hlk hm1 b1 y3 c2 c3
  go_wp2_with fail
  go_quiet (fail)
  go_wp2_with fail
  go_ret
  exact ⟨rfl, below_drewN BB _⟩

set_option maxHeartbeats 2000000 in
theorem rcheck_0 (a : Nat) (m me lo fa : Int) (nx : Nat) (du : Int) (ch : Bool) (w : World) (ha : a < 4294967296) (hx : nx < 4294967296) :
    Calls Tryd.prog 16 #[.agg #[.int .u32 a, .int .i64 m, .int .i64 0, .int .i64 me, .int .i64 lo, .int .i64 fa, .int .u32 nx, .int .i64 du, .bool ch]] w fun e w' => e = .returned (.int .i64 (errC (okR a m 0 me lo fa nx du ch))) ∧ Below w.heap.size w w' := by
  have hta : ∀ w, (Instr.typeAssert (stV 58) 20 85 false).run Tryd.prog w = .ok (.func (.func 58) #[] #[]) w := fun _ => by kernel_rfl
  have HS := Lib.hid (fun W => states_any W)
  have H1 := Lib.hid (fun W => s0_any a m 0 me lo fa nx du ch W)
  have H2 := Lib.hid (fun W => isTold_any a m 0 me lo fa nx du ch W ha)
  have y0 := (Blk.new w 31 #[.int .u32 a, .int .i64 m, .int .i64 0, .int .i64 me, .int .i64 lo, .int .i64 fa, .int .u32 nx, .int .i64 du, .bool ch]).alloc (.cells #[.int .u32 a, .int .i64 m, .int .i64 0, .int .i64 me, .int .i64 lo, .int .i64 fa, .int .u32 nx, .int .i64 du, .bool ch] 78)
  have y1 := Blk.new (w.alloc (.cells #[.int .u32 a, .int .i64 m, .int .i64 0, .int .i64 me, .int .i64 lo, .int .i64 fa, .int .u32 nx, .int .i64 du, .bool ch] 31)) 78 #[.int .u32 a, .int .i64 m, .int .i64 0, .int .i64 me, .int .i64 lo, .int .i64 fa, .int .u32 nx, .int .i64 du, .bool ch]
  rw [World.size_alloc] at y1
  have b0 : Below w.heap.size w ((w.alloc (.cells #[.int .u32 a, .int .i64 m, .int .i64 0, .int .i64 me, .int .i64 lo, .int .i64 fa, .int .u32 nx, .int .i64 du, .bool ch] 31)).alloc (.cells #[.int .u32 a, .int .i64 m, .int .i64 0, .int .i64 me, .int .i64 lo, .int .i64 fa, .int .u32 nx, .int .i64 du, .bool ch] 78)) := balloc (balloc (Below.refl _ _) _) _
  have HL := Lib.hid (fun b W hb => show (Instr.lookup 83 (.map (some b)) (.int .i64 0) true).run Tryd.prog W = .ok (.tuple #[stV 58, .bool true]) W from lkS_has b 0 W hb (by decide))
  have Y := Lib.hid (And.intro y0 (And.intro y1 b0))
  clear ha hx y0 y1 b0
  rw [show okR a m 0 me lo fa nx du ch = (s0F me lo fa nx du ch && okOf a m 1) from rfl]
  generalize s0F me lo fa nx du ch = x1 at *
  generalize okOf a m 1 = x2 at *
  cases x1 <;> cases x2
  all_goals
    go_enter Tryd.func16, Tryd.ntmps16
    go_wp2_with fail
    generalize ((w.alloc (.cells #[.int .u32 a, .int .i64 m, .int .i64 0, .int .i64 me, .int .i64 lo, .int .i64 fa, .int .u32 nx, .int .i64 du, .bool ch] 31)).alloc (.cells #[.int .u32 a, .int .i64 m, .int .i64 0, .int .i64 me, .int .i64 lo, .int .i64 fa, .int .u32 nx, .int .i64 du, .bool ch] 78)) = W0 at *
    have c2 := Y.out.1.cell 2
    simp only [List.getElem?_toArray, List.getElem?_cons_zero, List.getElem?_cons_succ] at c2
    go_region_held3 (fun W => W.cell? ⟨w.heap.size, 2, none⟩ = some (.int .i64 0)) (first | exact c2 | exact c3)
      (first | (go_at_call 40; refine (HS.out _).mono ?_; rintro e w1 ⟨rfl, hm1, b1⟩; have hlk := HL.out W0.heap.size w1 hm1; have y3 := Blk.below (w := W0.drew) Y.out.1 b1 Y.out.1.lt; have c3 := y3.cell 2; simp only [List.getElem?_toArray, List.getElem?_cons_zero, List.getElem?_cons_succ] at c3))
    have y4 := Blk.below (w := W0.drew) Y.out.2.1 b1 Y.out.2.1.lt
    have BB : Below w.heap.size w w1 := bnext Y.out.2.2 (below_of_drew b1)
    clear Y hlk hm1 b1 y3 c2 c3
    have d0 := fun v : Sub w1 => ((y4).below v.2 (y4).lt).cell 0
    have d1 := fun v : Sub w1 => ((y4).below v.2 (y4).lt).cell 1
    have d2 := fun v : Sub w1 => ((y4).below v.2 (y4).lt).cell 2
    have d3 := fun v : Sub w1 => ((y4).below v.2 (y4).lt).cell 3
    have d4 := fun v : Sub w1 => ((y4).below v.2 (y4).lt).cell 4
    have d5 := fun v : Sub w1 => ((y4).below v.2 (y4).lt).cell 5
    have d6 := fun v : Sub w1 => ((y4).below v.2 (y4).lt).cell 6
    have d7 := fun v : Sub w1 => ((y4).below v.2 (y4).lt).cell 7
    have d8 := fun v : Sub w1 => ((y4).below v.2 (y4).lt).cell 8
    simp only [List.getElem?_toArray, List.getElem?_cons_zero, List.getElem?_cons_succ] at d0 d1 d2 d3 d4 d5 d6 d7 d8
    have hne : Nonempty (Sub w1) := ⟨⟨_, Below.refl _ _⟩⟩
    clear y4
    go_wp2_with fail
    refine region_sub (by kernel_rfl) (by kernel_rfl) ?_
    repeat (first | go_big_quiet_step ((first | (go_at_call 58; exact sub_below (H1.out _)) | (go_at_call 41; exact sub_below (H2.out _)))) | quiet_step ((first | (go_at_call 58; exact sub_below (H1.out _)) | (go_at_call 41; exact sub_below (H2.out _)))))
    refine wpQuiet_nil ?_
    rintro _ ⟨v, rfl⟩
    clear d0 d1 d2 d3 d4 d5 d6 d7 d8
    go_wp2_with fail
    go_ret
    exact ⟨rfl, bnext BB v.2⟩

set_option maxHeartbeats 2000000 in
theorem rcheck_1 (a : Nat) (m me lo fa : Int) (nx : Nat) (du : Int) (ch : Bool) (w : World) (ha : a < 4294967296) (hx : nx < 4294967296) :
    Calls Tryd.prog 16 #[.agg #[.int .u32 a, .int .i64 m, .int .i64 1, .int .i64 me, .int .i64 lo, .int .i64 fa, .int .u32 nx, .int .i64 du, .bool ch]] w fun e w' => e = .returned (.int .i64 (errC (okR a m 1 me lo fa nx du ch))) ∧ Below w.heap.size w w' := by
  have hta : ∀ w, (Instr.typeAssert (stV 61) 20 85 false).run Tryd.prog w = .ok (.func (.func 61) #[] #[]) w := fun _ => by kernel_rfl
  have HS := Lib.hid (fun W => states_any W)
  have H1 := Lib.hid (fun W => s1_any a m 1 me lo fa nx du ch W)
  have H2 := Lib.hid (fun W => isTold_any a m 1 me lo fa nx du ch W ha)
  have y0 := (Blk.new w 31 #[.int .u32 a, .int .i64 m, .int .i64 1, .int .i64 me, .int .i64 lo, .int .i64 fa, .int .u32 nx, .int .i64 du, .bool ch]).alloc (.cells #[.int .u32 a, .int .i64 m, .int .i64 1, .int .i64 me, .int .i64 lo, .int .i64 fa, .int .u32 nx, .int .i64 du, .bool ch] 78)
  have y1 := Blk.new (w.alloc (.cells #[.int .u32 a, .int .i64 m, .int .i64 1, .int .i64 me, .int .i64 lo, .int .i64 fa, .int .u32 nx, .int .i64 du, .bool ch] 31)) 78 #[.int .u32 a, .int .i64 m, .int .i64 1, .int .i64 me, .int .i64 lo, .int .i64 fa, .int .u32 nx, .int .i64 du, .bool ch]
  rw [World.size_alloc] at y1
  have b0 : Below w.heap.size w ((w.alloc (.cells #[.int .u32 a, .int .i64 m, .int .i64 1, .int .i64 me, .int .i64 lo, .int .i64 fa, .int .u32 nx, .int .i64 du, .bool ch] 31)).alloc (.cells #[.int .u32 a, .int .i64 m, .int .i64 1, .int .i64 me, .int .i64 lo, .int .i64 fa, .int .u32 nx, .int .i64 du, .bool ch] 78)) := balloc (balloc (Below.refl _ _) _) _
  have HL := Lib.hid (fun b W hb => show (Instr.lookup 83 (.map (some b)) (.int .i64 1) true).run Tryd.prog W = .ok (.tuple #[stV 61, .bool true]) W from lkS_has b 1 W hb (by decide))
  have Y := Lib.hid (And.intro y0 (And.intro y1 b0))
  clear ha hx y0 y1 b0
  rw [show okR a m 1 me lo fa nx du ch = (s1F me lo fa nx du && okOf a m 1) from rfl]
  generalize s1F me lo fa nx du = x1 at *
  generalize okOf a m 1 = x2 at *
  cases x1 <;> cases x2
  all_goals
    go_enter Tryd.func16, Tryd.ntmps16
    go_wp2_with fail
    generalize ((w.alloc (.cells #[.int .u32 a, .int .i64 m, .int .i64 1, .int .i64 me, .int .i64 lo, .int .i64 fa, .int .u32 nx, .int .i64 du, .bool ch] 31)).alloc (.cells #[.int .u32 a, .int .i64 m, .int .i64 1, .int .i64 me, .int .i64 lo, .int .i64 fa, .int .u32 nx, .int .i64 du, .bool ch] 78)) = W0 at *
    have c2 := Y.out.1.cell 2
    simp only [List.getElem?_toArray, List.getElem?_cons_zero, List.getElem?_cons_succ] at c2
    go_region_held3 (fun W => W.cell? ⟨w.heap.size, 2, none⟩ = some (.int .i64 1)) (first | exact c2 | exact c3)
      (first | (go_at_call 40; refine (HS.out _).mono ?_; rintro e w1 ⟨rfl, hm1, b1⟩; have hlk := HL.out W0.heap.size w1 hm1; have y3 := Blk.below (w := W0.drew) Y.out.1 b1 Y.out.1.lt; have c3 := y3.cell 2; simp only [List.getElem?_toArray, List.getElem?_cons_zero, List.getElem?_cons_succ] at c3))
    have y4 := Blk.below (w := W0.drew) Y.out.2.1 b1 Y.out.2.1.lt
    have BB : Below w.heap.size w w1 := bnext Y.out.2.2 (below_of_drew b1)
    clear Y hlk hm1 b1 y3 c2 c3
    have d0 := fun v : Sub w1 => ((y4).below v.2 (y4).lt).cell 0
    have d1 := fun v : Sub w1 => ((y4).below v.2 (y4).lt).cell 1
    have d2 := fun v : Sub w1 => ((y4).below v.2 (y4).lt).cell 2
    have d3 := fun v : Sub w1 => ((y4).below v.2 (y4).lt).cell 3
    have d4 := fun v : Sub w1 => ((y4).below v.2 (y4).lt).cell 4
    have d5 := fun v : Sub w1 => ((y4).below v.2 (y4).lt).cell 5
    have d6 := fun v : Sub w1 => ((y4).below v.2 (y4).lt).cell 6
    have d7 := fun v : Sub w1 => ((y4).below v.2 (y4).lt).cell 7
    have d8 := fun v : Sub w1 => ((y4).below v.2 (y4).lt).cell 8
    simp only [List.getElem?_toArray, List.getElem?_cons_zero, List.getElem?_cons_succ] at d0 d1 d2 d3 d4 d5 d6 d7 d8
    have hne : Nonempty (Sub w1) := ⟨⟨_, Below.refl _ _⟩⟩
    clear y4
    go_wp2_with fail
    refine region_sub (by kernel_rfl) (by kernel_rfl) ?_
    repeat (first | go_big_quiet_step ((first | (go_at_call 61; exact sub_below (H1.out _)) | (go_at_call 41; exact sub_below (H2.out _)))) | quiet_step ((first | (go_at_call 61; exact sub_below (H1.out _)) | (go_at_call 41; exact sub_below (H2.out _)))))
    refine wpQuiet_nil ?_
    rintro _ ⟨v, rfl⟩
    clear d0 d1 d2 d3 d4 d5 d6 d7 d8
    go_wp2_with fail
    go_ret
    exact ⟨rfl, bnext BB v.2⟩

set_option maxHeartbeats 2000000 in
theorem rcheck_2 (a : Nat) (m me lo fa : Int) (nx : Nat) (du : Int) (ch : Bool) (w : World) (ha : a < 4294967296) (hx : nx < 4294967296) :
    Calls Tryd.prog 16 #[.agg #[.int .u32 a, .int .i64 m, .int .i64 2, .int .i64 me, .int .i64 lo, .int .i64 fa, .int .u32 nx, .int .i64 du, .bool ch]] w fun e w' => e = .returned (.int .i64 (errC (okR a m 2 me lo fa nx du ch))) ∧ Below w.heap.size w w' := by
  have hta : ∀ w, (Instr.typeAssert (stV 62) 20 85 false).run Tryd.prog w = .ok (.func (.func 62) #[] #[]) w := fun _ => by kernel_rfl
  have HS := Lib.hid (fun W => states_any W)
  have H1 := Lib.hid (fun W => s2_any a m 2 me lo fa nx du ch W hx)
  have H2 := Lib.hid (fun W => isTold_any a m 2 me lo fa nx du ch W ha)
  have y0 := (Blk.new w 31 #[.int .u32 a, .int .i64 m, .int .i64 2, .int .i64 me, .int .i64 lo, .int .i64 fa, .int .u32 nx, .int .i64 du, .bool ch]).alloc (.cells #[.int .u32 a, .int .i64 m, .int .i64 2, .int .i64 me, .int .i64 lo, .int .i64 fa, .int .u32 nx, .int .i64 du, .bool ch] 78)
  have y1 := Blk.new (w.alloc (.cells #[.int .u32 a, .int .i64 m, .int .i64 2, .int .i64 me, .int .i64 lo, .int .i64 fa, .int .u32 nx, .int .i64 du, .bool ch] 31)) 78 #[.int .u32 a, .int .i64 m, .int .i64 2, .int .i64 me, .int .i64 lo, .int .i64 fa, .int .u32 nx, .int .i64 du, .bool ch]
  rw [World.size_alloc] at y1
  have b0 : Below w.heap.size w ((w.alloc (.cells #[.int .u32 a, .int .i64 m, .int .i64 2, .int .i64 me, .int .i64 lo, .int .i64 fa, .int .u32 nx, .int .i64 du, .bool ch] 31)).alloc (.cells #[.int .u32 a, .int .i64 m, .int .i64 2, .int .i64 me, .int .i64 lo, .int .i64 fa, .int .u32 nx, .int .i64 du, .bool ch] 78)) := balloc (balloc (Below.refl _ _) _) _
  have HL := Lib.hid (fun b W hb => show (Instr.lookup 83 (.map (some b)) (.int .i64 2) true).run Tryd.prog W = .ok (.tuple #[stV 62, .bool true]) W from lkS_has b 2 W hb (by decide))
  have Y := Lib.hid (And.intro y0 (And.intro y1 b0))
  clear ha hx y0 y1 b0
  rw [show okR a m 2 me lo fa nx du ch = (s2F me lo fa nx du && okOf a m 1) from rfl]
  generalize s2F me lo fa nx du = x1 at *
  generalize okOf a m 1 = x2 at *
  cases x1 <;> cases x2
  all_goals
    go_enter Tryd.func16, Tryd.ntmps16
    go_wp2_with fail
    generalize ((w.alloc (.cells #[.int .u32 a, .int .i64 m, .int .i64 2, .int .i64 me, .int .i64 lo, .int .i64 fa, .int .u32 nx, .int .i64 du, .bool ch] 31)).alloc (.cells #[.int .u32 a, .int .i64 m, .int .i64 2, .int .i64 me, .int .i64 lo, .int .i64 fa, .int .u32 nx, .int .i64 du, .bool ch] 78)) = W0 at *
    have c2 := Y.out.1.cell 2
    simp only [List.getElem?_toArray, List.getElem?_cons_zero, List.getElem?_cons_succ] at c2
    go_region_held3 (fun W => W.cell? ⟨w.heap.size, 2, none⟩ = some (.int .i64 2)) (first | exact c2 | exact c3)
      (first | (go_at_call 40; refine (HS.out _).mono ?_; rintro e w1 ⟨rfl, hm1, b1⟩; have hlk := HL.out W0.heap.size w1 hm1; have y3 := Blk.below (w := W0.drew) Y.out.1 b1 Y.out.1.lt; have c3 := y3.cell 2; simp only [List.getElem?_toArray, List.getElem?_cons_zero, List.getElem?_cons_succ] at c3))
    have y4 := Blk.below (w := W0.drew) Y.out.2.1 b1 Y.out.2.1.lt
    have BB : Below w.heap.size w w1 := bnext Y.out.2.2 (below_of_drew b1)
    clear Y hlk hm1 b1 y3 c2 c3
    have d0 := fun v : Sub w1 => ((y4).below v.2 (y4).lt).cell 0
    have d1 := fun v : Sub w1 => ((y4).below v.2 (y4).lt).cell 1
    have d2 := fun v : Sub w1 => ((y4).below v.2 (y4).lt).cell 2
    have d3 := fun v : Sub w1 => ((y4).below v.2 (y4).lt).cell 3
    have d4 := fun v : Sub w1 => ((y4).below v.2 (y4).lt).cell 4
    have d5 := fun v : Sub w1 => ((y4).below v.2 (y4).lt).cell 5
    have d6 := fun v : Sub w1 => ((y4).below v.2 (y4).lt).cell 6
    have d7 := fun v : Sub w1 => ((y4).below v.2 (y4).lt).cell 7
    have d8 := fun v : Sub w1 => ((y4).below v.2 (y4).lt).cell 8
    simp only [List.getElem?_toArray, List.getElem?_cons_zero, List.getElem?_cons_succ] at d0 d1 d2 d3 d4 d5 d6 d7 d8
    have hne : Nonempty (Sub w1) := ⟨⟨_, Below.refl _ _⟩⟩
    clear y4
    go_wp2_with fail
    refine region_sub (by kernel_rfl) (by kernel_rfl) ?_
    repeat (first | go_big_quiet_step ((first | (go_at_call 62; exact sub_below (H1.out _)) | (go_at_call 41; exact sub_below (H2.out _)))) | quiet_step ((first | (go_at_call 62; exact sub_below (H1.out _)) | (go_at_call 41; exact sub_below (H2.out _)))))
    refine wpQuiet_nil ?_
    rintro _ ⟨v, rfl⟩
    clear d0 d1 d2 d3 d4 d5 d6 d7 d8
    go_wp2_with fail
    go_ret
    exact ⟨rfl, bnext BB v.2⟩

set_option maxHeartbeats 2000000 in
theorem rcheck_3 (a : Nat) (m me lo fa : Int) (nx : Nat) (du : Int) (ch : Bool) (w : World) (ha : a < 4294967296) (hx : nx < 4294967296) :
    Calls Tryd.prog 16 #[.agg #[.int .u32 a, .int .i64 m, .int .i64 3, .int .i64 me, .int .i64 lo, .int .i64 fa, .int .u32 nx, .int .i64 du, .bool ch]] w fun e w' => e = .returned (.int .i64 (errC (okR a m 3 me lo fa nx du ch))) ∧ Below w.heap.size w w' := by
  have hta : ∀ w, (Instr.typeAssert (stV 64) 20 85 false).run Tryd.prog w = .ok (.func (.func 64) #[] #[]) w := fun _ => by kernel_rfl
  have HS := Lib.hid (fun W => states_any W)
  have H1 := Lib.hid (fun W => s3_any a m 3 me lo fa nx du ch W hx)
  have H2 := Lib.hid (fun W => isTold_any a m 3 me lo fa nx du ch W ha)
  have y0 := (Blk.new w 31 #[.int .u32 a, .int .i64 m, .int .i64 3, .int .i64 me, .int .i64 lo, .int .i64 fa, .int .u32 nx, .int .i64 du, .bool ch]).alloc (.cells #[.int .u32 a, .int .i64 m, .int .i64 3, .int .i64 me, .int .i64 lo, .int .i64 fa, .int .u32 nx, .int .i64 du, .bool ch] 78)
  have y1 := Blk.new (w.alloc (.cells #[.int .u32 a, .int .i64 m, .int .i64 3, .int .i64 me, .int .i64 lo, .int .i64 fa, .int .u32 nx, .int .i64 du, .bool ch] 31)) 78 #[.int .u32 a, .int .i64 m, .int .i64 3, .int .i64 me, .int .i64 lo, .int .i64 fa, .int .u32 nx, .int .i64 du, .bool ch]
  rw [World.size_alloc] at y1
  have b0 : Below w.heap.size w ((w.alloc (.cells #[.int .u32 a, .int .i64 m, .int .i64 3, .int .i64 me, .int .i64 lo, .int .i64 fa, .int .u32 nx, .int .i64 du, .bool ch] 31)).alloc (.cells #[.int .u32 a, .int .i64 m, .int .i64 3, .int .i64 me, .int .i64 lo, .int .i64 fa, .int .u32 nx, .int .i64 du, .bool ch] 78)) := balloc (balloc (Below.refl _ _) _) _
  have HL := Lib.hid (fun b W hb => show (Instr.lookup 83 (.map (some b)) (.int .i64 3) true).run Tryd.prog W = .ok (.tuple #[stV 64, .bool true]) W from lkS_has b 3 W hb (by decide))
  have Y := Lib.hid (And.intro y0 (And.intro y1 b0))
  clear ha hx y0 y1 b0
  rw [show okR a m 3 me lo fa nx du ch = (s3F me lo fa nx du && okOf a m 1) from rfl]
  generalize s3F me lo fa nx du = x1 at *
  generalize okOf a m 1 = x2 at *
  cases x1 <;> cases x2
  all_goals
    go_enter Tryd.func16, Tryd.ntmps16
    go_wp2_with fail
    generalize ((w.alloc (.cells #[.int .u32 a, .int .i64 m, .int .i64 3, .int .i64 me, .int .i64 lo, .int .i64 fa, .int .u32 nx, .int .i64 du, .bool ch] 31)).alloc (.cells #[.int .u32 a, .int .i64 m, .int .i64 3, .int .i64 me, .int .i64 lo, .int .i64 fa, .int .u32 nx, .int .i64 du, .bool ch] 78)) = W0 at *
    have c2 := Y.out.1.cell 2
    simp only [List.getElem?_toArray, List.getElem?_cons_zero, List.getElem?_cons_succ] at c2
    go_region_held3 (fun W => W.cell? ⟨w.heap.size, 2, none⟩ = some (.int .i64 3)) (first | exact c2 | exact c3)
      (first | (go_at_call 40; refine (HS.out _).mono ?_; rintro e w1 ⟨rfl, hm1, b1⟩; have hlk := HL.out W0.heap.size w1 hm1; have y3 := Blk.below (w := W0.drew) Y.out.1 b1 Y.out.1.lt; have c3 := y3.cell 2; simp only [List.getElem?_toArray, List.getElem?_cons_zero, List.getElem?_cons_succ] at c3))
    have y4 := Blk.below (w := W0.drew) Y.out.2.1 b1 Y.out.2.1.lt
    have BB : Below w.heap.size w w1 := bnext Y.out.2.2 (below_of_drew b1)
    clear Y hlk hm1 b1 y3 c2 c3
    have d0 := fun v : Sub w1 => ((y4).below v.2 (y4).lt).cell 0
    have d1 := fun v : Sub w1 => ((y4).below v.2 (y4).lt).cell 1
    have d2 := fun v : Sub w1 => ((y4).below v.2 (y4).lt).cell 2
    have d3 := fun v : Sub w1 => ((y4).below v.2 (y4).lt).cell 3
    have d4 := fun v : Sub w1 => ((y4).below v.2 (y4).lt).cell 4
    have d5 := fun v : Sub w1 => ((y4).below v.2 (y4).lt).cell 5
    have d6 := fun v : Sub w1 => ((y4).below v.2 (y4).lt).cell 6
    have d7 := fun v : Sub w1 => ((y4).below v.2 (y4).lt).cell 7
    have d8 := fun v : Sub w1 => ((y4).below v.2 (y4).lt).cell 8
    simp only [List.getElem?_toArray, List.getElem?_cons_zero, List.getElem?_cons_succ] at d0 d1 d2 d3 d4 d5 d6 d7 d8
    have hne : Nonempty (Sub w1) := ⟨⟨_, Below.refl _ _⟩⟩
    clear y4
    go_wp2_with fail
    refine region_sub (by kernel_rfl) (by kernel_rfl) ?_
    repeat (first | go_big_quiet_step ((first | (go_at_call 64; exact sub_below (H1.out _)) | (go_at_call 41; exact sub_below (H2.out _)))) | quiet_step ((first | (go_at_call 64; exact sub_below (H1.out _)) | (go_at_call 41; exact sub_below (H2.out _)))))
    refine wpQuiet_nil ?_
    rintro _ ⟨v, rfl⟩
    clear d0 d1 d2 d3 d4 d5 d6 d7 d8
    go_wp2_with fail
    go_ret
    exact ⟨rfl, bnext BB v.2⟩

set_option maxHeartbeats 2000000 in
theorem rcheck_4 (a : Nat) (m me lo fa : Int) (nx : Nat) (du : Int) (ch : Bool) (w : World) (ha : a < 4294967296) (hx : nx < 4294967296) :
    Calls Tryd.prog 16 #[.agg #[.int .u32 a, .int .i64 m, .int .i64 4, .int .i64 me, .int .i64 lo, .int .i64 fa, .int .u32 nx, .int .i64 du, .bool ch]] w fun e w' => e = .returned (.int .i64 (errC (okR a m 4 me lo fa nx du ch))) ∧ Below w.heap.size w w' := by
  have hta : ∀ w, (Instr.typeAssert (stV 65) 20 85 false).run Tryd.prog w = .ok (.func (.func 65) #[] #[]) w := fun _ => by kernel_rfl
  have HS := Lib.hid (fun W => states_any W)
  have H1 := Lib.hid (fun W => s4_any a m 4 me lo fa nx du ch W hx)
  have H2 := Lib.hid (fun W => isTold_any a m 4 me lo fa nx du ch W ha)
  have y0 := (Blk.new w 31 #[.int .u32 a, .int .i64 m, .int .i64 4, .int .i64 me, .int .i64 lo, .int .i64 fa, .int .u32 nx, .int .i64 du, .bool ch]).alloc (.cells #[.int .u32 a, .int .i64 m, .int .i64 4, .int .i64 me, .int .i64 lo, .int .i64 fa, .int .u32 nx, .int .i64 du, .bool ch] 78)
  have y1 := Blk.new (w.alloc (.cells #[.int .u32 a, .int .i64 m, .int .i64 4, .int .i64 me, .int .i64 lo, .int .i64 fa, .int .u32 nx, .int .i64 du, .bool ch] 31)) 78 #[.int .u32 a, .int .i64 m, .int .i64 4, .int .i64 me, .int .i64 lo, .int .i64 fa, .int .u32 nx, .int .i64 du, .bool ch]
  rw [World.size_alloc] at y1
  have b0 : Below w.heap.size w ((w.alloc (.cells #[.int .u32 a, .int .i64 m, .int .i64 4, .int .i64 me, .int .i64 lo, .int .i64 fa, .int .u32 nx, .int .i64 du, .bool ch] 31)).alloc (.cells #[.int .u32 a, .int .i64 m, .int .i64 4, .int .i64 me, .int .i64 lo, .int .i64 fa, .int .u32 nx, .int .i64 du, .bool ch] 78)) := balloc (balloc (Below.refl _ _) _) _
  have HL := Lib.hid (fun b W hb => show (Instr.lookup 83 (.map (some b)) (.int .i64 4) true).run Tryd.prog W = .ok (.tuple #[stV 65, .bool true]) W from lkS_has b 4 W hb (by decide))
  have Y := Lib.hid (And.intro y0 (And.intro y1 b0))
  clear ha hx y0 y1 b0
  rw [show okR a m 4 me lo fa nx du ch = (s4F me lo fa nx du && okOf a m 1) from rfl]
  generalize s4F me lo fa nx du = x1 at *
  generalize okOf a m 1 = x2 at *
  cases x1 <;> cases x2
  all_goals
    go_enter Tryd.func16, Tryd.ntmps16
    go_wp2_with fail
    generalize ((w.alloc (.cells #[.int .u32 a, .int .i64 m, .int .i64 4, .int .i64 me, .int .i64 lo, .int .i64 fa, .int .u32 nx, .int .i64 du, .bool ch] 31)).alloc (.cells #[.int .u32 a, .int .i64 m, .int .i64 4, .int .i64 me, .int .i64 lo, .int .i64 fa, .int .u32 nx, .int .i64 du, .bool ch] 78)) = W0 at *
    have c2 := Y.out.1.cell 2
    simp only [List.getElem?_toArray, List.getElem?_cons_zero, List.getElem?_cons_succ] at c2
    go_region_held3 (fun W => W.cell? ⟨w.heap.size, 2, none⟩ = some (.int .i64 4)) (first | exact c2 | exact c3)
      (first | (go_at_call 40; refine (HS.out _).mono ?_; rintro e w1 ⟨rfl, hm1, b1⟩; have hlk := HL.out W0.heap.size w1 hm1; have y3 := Blk.below (w := W0.drew) Y.out.1 b1 Y.out.1.lt; have c3 := y3.cell 2; simp only [List.getElem?_toArray, List.getElem?_cons_zero, List.getElem?_cons_succ] at c3))
    have y4 := Blk.below (w := W0.drew) Y.out.2.1 b1 Y.out.2.1.lt
    have BB : Below w.heap.size w w1 := bnext Y.out.2.2 (below_of_drew b1)
    clear Y hlk hm1 b1 y3 c2 c3
    have d0 := fun v : Sub w1 => ((y4).below v.2 (y4).lt).cell 0
    have d1 := fun v : Sub w1 => ((y4).below v.2 (y4).lt).cell 1
    have d2 := fun v : Sub w1 => ((y4).below v.2 (y4).lt).cell 2
    have d3 := fun v : Sub w1 => ((y4).below v.2 (y4).lt).cell 3
    have d4 := fun v : Sub w1 => ((y4).below v.2 (y4).lt).cell 4
    have d5 := fun v : Sub w1 => ((y4).below v.2 (y4).lt).cell 5
    have d6 := fun v : Sub w1 => ((y4).below v.2 (y4).lt).cell 6
    have d7 := fun v : Sub w1 => ((y4).below v.2 (y4).lt).cell 7
    have d8 := fun v : Sub w1 => ((y4).below v.2 (y4).lt).cell 8
    simp only [List.getElem?_toArray, List.getElem?_cons_zero, List.getElem?_cons_succ] at d0 d1 d2 d3 d4 d5 d6 d7 d8
    have hne : Nonempty (Sub w1) := ⟨⟨_, Below.refl _ _⟩⟩
    clear y4
    go_wp2_with fail
    refine region_sub (by kernel_rfl) (by kernel_rfl) ?_
    repeat (first | go_big_quiet_step ((first | (go_at_call 65; exact sub_below (H1.out _)) | (go_at_call 41; exact sub_below (H2.out _)))) | quiet_step ((first | (go_at_call 65; exact sub_below (H1.out _)) | (go_at_call 41; exact sub_below (H2.out _)))))
    refine wpQuiet_nil ?_
    rintro _ ⟨v, rfl⟩
    clear d0 d1 d2 d3 d4 d5 d6 d7 d8
    go_wp2_with fail
    go_ret
    exact ⟨rfl, bnext BB v.2⟩

theorem rcheck_any (a : Nat) (m st me lo fa : Int) (nx : Nat) (du : Int) (ch : Bool) (w : World) (ha : a < 4294967296) (hx : nx < 4294967296) :
    Calls Tryd.prog 16 #[.agg #[.int .u32 a, .int .i64 m, .int .i64 st, .int .i64 me, .int .i64 lo, .int .i64 fa, .int .u32 nx, .int .i64 du, .bool ch]] w fun e w' => e = .returned (.int .i64 (errC (okR a m st me lo fa nx du ch))) ∧ Below w.heap.size w w' := by
  by_cases h : 0 ≤ st ∧ st ≤ 4
  · rcases (by omega : st = 0 ∨ st = 1 ∨ st = 2 ∨ st = 3 ∨ st = 4) with rfl | rfl | rfl | rfl | rfl
    · exact rcheck_0 a m me lo fa nx du ch w ha hx
    · exact rcheck_1 a m me lo fa nx du ch w ha hx
    · exact rcheck_2 a m me lo fa nx du ch w ha hx
    · exact rcheck_3 a m me lo fa nx du ch w ha hx
    · exact rcheck_4 a m me lo fa nx du ch w ha hx
  · rw [okR_st a m st me lo fa nx du ch h]
    exact rcheck_no a m st me lo fa nx du ch w h
end Go.Proofs.YtgjeejdebneoaaaDoor
