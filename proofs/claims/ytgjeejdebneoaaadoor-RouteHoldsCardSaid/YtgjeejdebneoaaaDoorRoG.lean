/- route: the law's works. -/
import Derived.Test.YtgjeejdebneoaaaDoorRoF
import Derived.Test.YtgjeejdebneoaaaDoorRoB
import Derived.Test.YtgjeejdebneoaaaDoorNum
namespace Go.Proofs.YtgjeejdebneoaaaDoor
set_option linter.unusedVariables false
set_option linter.unusedSimpArgs false
open Go.RowKit Go.Shelf
attribute [local go_sem] Oper.semAt_some
set_option maxRecDepth 100000
theorem given_any11 (w : World) : Calls Tryd.prog 30 #[] w fun e w' => e = .returned (.agg #[.int .i64 1, .int .i64 0, .int .i64 6, .int .i64 4, .int .i64 3, .int .i64 0, .int .i64 0, .int .i64 1, .slice none 0 0]) ∧ Below w.heap.size w w' := by
  go_enter Tryd.func30, Tryd.ntmps30
  go_wp2
  go_returns
  exact ⟨rfl, by go_grown⟩
theorem hear_w1 (W : World) (hw : CapsAt W) : Calls Tryd.prog 10 #[.agg #[.int .i64 1, .int .i64 0, .int .i64 6, .int .i64 4, .int .i64 3, .int .i64 0, .int .i64 0, .int .i64 1, .slice none 0 0], .agg #[.int .u32 168099840, .int .i64 16, .int .i64 0, .int .i64 0, .int .i64 0, .int .i64 0, .int .u32 0, .int .i64 0, .bool false], .agg #[.int .i64 0, .int .u32 167772418, .int .i64 2], .int .i64 10] W fun e w' => e = .returned (.tuple #[.agg #[.int .u32 168099840, .int .i64 16, .int .i64 2, .int .i64 3, .int .i64 0, .int .i64 0, .int .u32 167772418, .int .i64 16, .bool true], .int .i64 0]) ∧ Below W.heap.size W w' := by
  have q := hearE_any 1 0 6 4 3 0 0 1 none 0 0 W.heap.size [] rfl 168099840 16 0 0 0 0 0 0 false 0 167772418 2 10 W Rd.nil (Nat.le_refl _) (by decide) (by decide) (by simp) hw (by decide) (by decide) (by decide)
  rw [show askR (okC 1 0 6 4 3 0 0 1 [] && okR 168099840 16 0 0 0 0 0 0 false && okH 0 167772418 2) 10 = 0 by decide +kernel] at q
  rw [show outR 0 (hearR 6 4 ⟨168099840, 16, 0, 0, 0, 0, 0, 0, false⟩ 0 167772418 2 10) = (⟨168099840, 16, 2, 3, 0, 0, 167772418, 16, true⟩ : Rt) by decide +kernel] at q
  exact q
theorem hear_w2 (W : World) (hw : CapsAt W) : Calls Tryd.prog 10 #[.agg #[.int .i64 1, .int .i64 0, .int .i64 6, .int .i64 4, .int .i64 3, .int .i64 0, .int .i64 0, .int .i64 1, .slice none 0 0], .agg #[.int .u32 168099840, .int .i64 16, .int .i64 2, .int .i64 3, .int .i64 0, .int .i64 0, .int .u32 167772418, .int .i64 16, .bool true], .agg #[.int .i64 0, .int .u32 167772418, .int .i64 2], .int .i64 12] W fun e w' => e = .returned (.tuple #[.agg #[.int .u32 168099840, .int .i64 16, .int .i64 2, .int .i64 3, .int .i64 0, .int .i64 0, .int .u32 167772418, .int .i64 18, .bool true], .int .i64 0]) ∧ Below W.heap.size W w' := by
  have q := hearE_any 1 0 6 4 3 0 0 1 none 0 0 W.heap.size [] rfl 168099840 16 2 3 0 0 167772418 16 true 0 167772418 2 12 W Rd.nil (Nat.le_refl _) (by decide) (by decide) (by simp) hw (by decide) (by decide) (by decide)
  rw [show askR (okC 1 0 6 4 3 0 0 1 [] && okR 168099840 16 2 3 0 0 167772418 16 true && okH 0 167772418 2) 12 = 0 by decide +kernel] at q
  rw [show outR 0 (hearR 6 4 ⟨168099840, 16, 2, 3, 0, 0, 167772418, 16, true⟩ 0 167772418 2 12) = (⟨168099840, 16, 2, 3, 0, 0, 167772418, 18, true⟩ : Rt) by decide +kernel] at q
  exact q
theorem hear_w3 (W : World) (hw : CapsAt W) : Calls Tryd.prog 10 #[.agg #[.int .i64 1, .int .i64 0, .int .i64 6, .int .i64 4, .int .i64 3, .int .i64 0, .int .i64 0, .int .i64 1, .slice none 0 0], .agg #[.int .u32 168099840, .int .i64 16, .int .i64 2, .int .i64 3, .int .i64 0, .int .i64 0, .int .u32 167772418, .int .i64 18, .bool true], .agg #[.int .i64 0, .int .u32 167772418, .int .i64 16], .int .i64 13] W fun e w' => e = .returned (.tuple #[.agg #[.int .u32 168099840, .int .i64 16, .int .i64 3, .int .i64 16, .int .i64 3, .int .i64 0, .int .u32 167772418, .int .i64 17, .bool true], .int .i64 0]) ∧ Below W.heap.size W w' := by
  have q := hearE_any 1 0 6 4 3 0 0 1 none 0 0 W.heap.size [] rfl 168099840 16 2 3 0 0 167772418 18 true 0 167772418 16 13 W Rd.nil (Nat.le_refl _) (by decide) (by decide) (by simp) hw (by decide) (by decide) (by decide)
  rw [show askR (okC 1 0 6 4 3 0 0 1 [] && okR 168099840 16 2 3 0 0 167772418 18 true && okH 0 167772418 16) 13 = 0 by decide +kernel] at q
  rw [show outR 0 (hearR 6 4 ⟨168099840, 16, 2, 3, 0, 0, 167772418, 18, true⟩ 0 167772418 16 13) = (⟨168099840, 16, 3, 16, 3, 0, 167772418, 17, true⟩ : Rt) by decide +kernel] at q
  exact q
theorem hear_w4 (W : World) (hw : CapsAt W) : Calls Tryd.prog 10 #[.agg #[.int .i64 1, .int .i64 0, .int .i64 6, .int .i64 4, .int .i64 3, .int .i64 0, .int .i64 0, .int .i64 1, .slice none 0 0], .agg #[.int .u32 168099840, .int .i64 16, .int .i64 3, .int .i64 16, .int .i64 3, .int .i64 0, .int .u32 167772418, .int .i64 17, .bool true], .agg #[.int .i64 1, .int .u32 167772674, .int .i64 2], .int .i64 13] W fun e w' => e = .returned (.tuple #[.agg #[.int .u32 168099840, .int .i64 16, .int .i64 3, .int .i64 16, .int .i64 3, .int .i64 0, .int .u32 167772418, .int .i64 17, .bool true], .int .i64 0]) ∧ Below W.heap.size W w' := by
  have q := hearE_any 1 0 6 4 3 0 0 1 none 0 0 W.heap.size [] rfl 168099840 16 3 16 3 0 167772418 17 true 1 167772674 2 13 W Rd.nil (Nat.le_refl _) (by decide) (by decide) (by simp) hw (by decide) (by decide) (by decide)
  rw [show askR (okC 1 0 6 4 3 0 0 1 [] && okR 168099840 16 3 16 3 0 167772418 17 true && okH 1 167772674 2) 13 = 0 by decide +kernel] at q
  rw [show outR 0 (hearR 6 4 ⟨168099840, 16, 3, 16, 3, 0, 167772418, 17, true⟩ 1 167772674 2 13) = (⟨168099840, 16, 3, 16, 3, 0, 167772418, 17, true⟩ : Rt) by decide +kernel] at q
  exact q
theorem hear_w5 (W : World) (hw : CapsAt W) : Calls Tryd.prog 10 #[.agg #[.int .i64 1, .int .i64 0, .int .i64 6, .int .i64 4, .int .i64 3, .int .i64 0, .int .i64 0, .int .i64 1, .slice none 0 0], .agg #[.int .u32 168099840, .int .i64 16, .int .i64 3, .int .i64 16, .int .i64 3, .int .i64 0, .int .u32 167772418, .int .i64 17, .bool true], .agg #[.int .i64 1, .int .u32 167772674, .int .i64 1], .int .i64 13] W fun e w' => e = .returned (.tuple #[.agg #[.int .u32 168099840, .int .i64 16, .int .i64 2, .int .i64 2, .int .i64 0, .int .i64 1, .int .u32 167772674, .int .i64 19, .bool true], .int .i64 0]) ∧ Below W.heap.size W w' := by
  have q := hearE_any 1 0 6 4 3 0 0 1 none 0 0 W.heap.size [] rfl 168099840 16 3 16 3 0 167772418 17 true 1 167772674 1 13 W Rd.nil (Nat.le_refl _) (by decide) (by decide) (by simp) hw (by decide) (by decide) (by decide)
  rw [show askR (okC 1 0 6 4 3 0 0 1 [] && okR 168099840 16 3 16 3 0 167772418 17 true && okH 1 167772674 1) 13 = 0 by decide +kernel] at q
  rw [show outR 0 (hearR 6 4 ⟨168099840, 16, 3, 16, 3, 0, 167772418, 17, true⟩ 1 167772674 1 13) = (⟨168099840, 16, 2, 2, 0, 1, 167772674, 19, true⟩ : Rt) by decide +kernel] at q
  exact q
def lifeW : List (Int × Rt) := [(19, (⟨168099840, 16, 3, 16, 2, 1, 167772674, 23, true⟩ : Rt)), (23, (⟨168099840, 16, 4, 16, 0, 1, 167772674, 26, true⟩ : Rt)), (26, (⟨168099840, 16, 0, 0, 0, 0, 0, 0, false⟩ : Rt))]
theorem life_w (W : World) (hw : CapsAt W) : Calls Tryd.prog 15 #[.agg #[.int .i64 1, .int .i64 0, .int .i64 6, .int .i64 4, .int .i64 3, .int .i64 0, .int .i64 0, .int .i64 1, .slice none 0 0], .agg #[.int .u32 168099840, .int .i64 16, .int .i64 2, .int .i64 2, .int .i64 0, .int .i64 1, .int .u32 167772674, .int .i64 19, .bool true]] W fun e w' => ∃ lb, e = .returned (.func (.func 39) #[] lb) ∧ IsLife w' lifeW lb ∧ Below W.heap.size W w' := by
  have q := life_any 1 0 6 4 3 0 0 1 none 0 0 W.heap.size [] rfl 168099840 16 2 2 0 1 167772674 19 true W Rd.nil (Nat.le_refl _) (by decide) (by decide) (by simp) hw (by decide) (by decide)
  rw [show lifeS 4 3 (okC 1 0 6 4 3 0 0 1 []) 3 ⟨168099840, 16, 2, 2, 0, 1, 167772674, 19, true⟩ = lifeW by decide +kernel] at q
  exact q
theorem told_w1 (W : World) : Calls Tryd.prog 19 #[.agg #[.int .u32 168099840, .int .i64 16, .int .i64 2, .int .i64 3, .int .i64 0, .int .i64 0, .int .u32 167772418, .int .i64 16, .bool true], .int .i64 0] W fun e w' => e = .returned (.int .i64 16) ∧ Below W.heap.size W w' := by
  have q := told_any 168099840 16 2 3 0 0 167772418 16 true 0 W (by decide) (by decide)
  rw [show toldR (okR 168099840 16 2 3 0 0 167772418 16 true) 2 3 0 0 = 16 by decide +kernel] at q
  exact q
theorem told_w2 (W : World) : Calls Tryd.prog 19 #[.agg #[.int .u32 168099840, .int .i64 16, .int .i64 2, .int .i64 3, .int .i64 0, .int .i64 0, .int .u32 167772418, .int .i64 16, .bool true], .int .i64 1] W fun e w' => e = .returned (.int .i64 3) ∧ Below W.heap.size W w' := by
  have q := told_any 168099840 16 2 3 0 0 167772418 16 true 1 W (by decide) (by decide)
  rw [show toldR (okR 168099840 16 2 3 0 0 167772418 16 true) 2 3 0 1 = 3 by decide +kernel] at q
  exact q
theorem told_w3 (W : World) : Calls Tryd.prog 19 #[.agg #[.int .u32 168099840, .int .i64 16, .int .i64 3, .int .i64 16, .int .i64 3, .int .i64 0, .int .u32 167772418, .int .i64 17, .bool true], .int .i64 0] W fun e w' => e = .returned (.int .i64 16) ∧ Below W.heap.size W w' := by
  have q := told_any 168099840 16 3 16 3 0 167772418 17 true 0 W (by decide) (by decide)
  rw [show toldR (okR 168099840 16 3 16 3 0 167772418 17 true) 3 16 0 0 = 16 by decide +kernel] at q
  exact q
def kT (n : Nat) : Int := if n = 0 then 19 else if n = 1 then 23 else 26
def kS (n : Nat) : Int := if n = 0 then 3 else if n = 1 then 4 else 0
theorem idx_t (n : Nat) (h : n < 3) (w : World) : (Instr.index 68 (.agg #[.int .i64 19, .int .i64 23, .int .i64 26]) (.int .i64 (n : Int))).run Tryd.prog w = .ok (.int .i64 (kT n)) w := by
  rcases (by omega : n = 0 ∨ n = 1 ∨ n = 2) with rfl | rfl | rfl <;> kernel_rfl
theorem idx_s (n : Nat) (h : n < 3) (w : World) : (Instr.index 69 (.agg #[.int .i64 3, .int .i64 4, .int .i64 0]) (.int .i64 (n : Int))).run Tryd.prog w = .ok (.int .i64 (kS n)) w := by
  rcases (by omega : n = 0 ∨ n = 1 ∨ n = 2) with rfl | rfl | rfl <;> kernel_rfl
theorem lifeW_at (n : Nat) (h : n < 3) : stT lifeW n = kT n ∧ (stQ lifeW n).st = kS n := by
  rcases (by omega : n = 0 ∨ n = 1 ∨ n = 2) with rfl | rfl | rfl <;> exact ⟨rfl, rfl⟩

set_option maxHeartbeats 8000000 in
theorem works11_any (w : World) (hw : CapsAt w) : Calls Tryd.prog 9 #[] w fun e w' => e = .returned (.bool true) ∧ Below w.heap.size w w' := by
  have hfn : ∀ (lb : Array Value) (w : World), (binOp .eql 46 (.func (.func 39) #[] lb) .nilFunc).run Tryd.prog w = .ok (.bool false) w := fun _ _ => rfl
  have yres := Blk.new w 4 #[.bool false]
  have BB : Below w.heap.size w (w.alloc (.cells #[.bool false] 4)) := balloc (Below.refl _ _) _
  have CW := Lib.hid (fun W (hW : Below w.heap.size w W) => hw.below hW)
  clear hw
  refine (callsIn_wide (n := 6)).1 ?_
  refine callsIn_of_wp_marks Tryd.func9 rfl trivial ?_ rfl
  simp only [Tryd.ntmps9, List.size_toArray, List.length_cons, List.length_nil, Nat.reduceAdd, Nat.reduceSub, Array.replicate_succ, Array.replicate_zero, List.push_toArray, List.append_toArray, List.nil_append, List.cons_append]
  have Y := Lib.hid (And.intro yres BB)
  clear yres BB
  gi_wp2_with fail
  refine ⟨trivial, ?_⟩
  refine (callsIn_wide.2 (given_any11 _)).mono ?_
  rintro e w1 ⟨rfl, b1⟩
  obtain ⟨yres, BB⟩ := Y.out
  replace yres := yres.below b1 yres.lt
  replace BB := bnext BB b1
  have hz1 : w.heap.size + 1 ≤ w1.heap.size := by have := b1.size; simp at this; omega
  have yc := Blk.new w1 24 #[.int .i64 1, .int .i64 0, .int .i64 6, .int .i64 4, .int .i64 3, .int .i64 0, .int .i64 0, .int .i64 1, .slice none 0 0]
  replace yres := yres.alloc (.cells #[.int .i64 1, .int .i64 0, .int .i64 6, .int .i64 4, .int .i64 3, .int .i64 0, .int .i64 0, .int .i64 1, .slice none 0 0] 24)
  replace BB := balloc BB (.cells #[.int .i64 1, .int .i64 0, .int .i64 6, .int .i64 4, .int .i64 3, .int .i64 0, .int .i64 0, .int .i64 1, .slice none 0 0] 24)
  have y1 := Blk.new (w1.alloc (.cells #[.int .i64 1, .int .i64 0, .int .i64 6, .int .i64 4, .int .i64 3, .int .i64 0, .int .i64 0, .int .i64 1, .slice none 0 0] 24)) 33 #[.int .i64 0, .int .u32 167772418, .int .i64 2]
  replace yres := yres.alloc (.cells #[.int .i64 0, .int .u32 167772418, .int .i64 2] 33)
  replace yc := yc.alloc (.cells #[.int .i64 0, .int .u32 167772418, .int .i64 2] 33)
  replace BB := balloc BB (.cells #[.int .i64 0, .int .u32 167772418, .int .i64 2] 33)
  have y2 := Blk.new ((w1.alloc (.cells #[.int .i64 1, .int .i64 0, .int .i64 6, .int .i64 4, .int .i64 3, .int .i64 0, .int .i64 0, .int .i64 1, .slice none 0 0] 24)).alloc (.cells #[.int .i64 0, .int .u32 167772418, .int .i64 2] 33)) 33 #[.int .i64 1, .int .u32 167772674, .int .i64 2]
  replace yres := yres.alloc (.cells #[.int .i64 1, .int .u32 167772674, .int .i64 2] 33)
  replace yc := yc.alloc (.cells #[.int .i64 1, .int .u32 167772674, .int .i64 2] 33)
  replace y1 := y1.alloc (.cells #[.int .i64 1, .int .u32 167772674, .int .i64 2] 33)
  replace BB := balloc BB (.cells #[.int .i64 1, .int .u32 167772674, .int .i64 2] 33)
  simp only [World.size_alloc] at y1 y2
  have Y := Lib.hid (And.intro yres (And.intro yc (And.intro y1 (And.intro y2 BB))))
  clear yres yc y1 y2 BB
  gi_wp2_with fail
  refine ⟨trivial, ?_⟩
  refine (callsIn_wide.2 (hear_w1 _ (CW.out _ (Y.out.2.2.2.2)))).mono ?_
  rintro e w2 ⟨rfl, b2⟩
  have hs2 := b2.size
  simp only [World.size_alloc] at hs2
  obtain ⟨yres, yc, y1, y2, BB⟩ := Y.out
  replace yres := yres.below b2 yres.lt
  replace yc := yc.below b2 yc.lt
  replace y1 := y1.below b2 y1.lt
  replace y2 := y2.below b2 y2.lt
  replace BB := bnext BB b2
  clear b2
  have yr := Blk.new w2 31 #[.int .u32 168099840, .int .i64 16, .int .i64 2, .int .i64 3, .int .i64 0, .int .i64 0, .int .u32 167772418, .int .i64 16, .bool true]
  replace yres := yres.alloc (.cells #[.int .u32 168099840, .int .i64 16, .int .i64 2, .int .i64 3, .int .i64 0, .int .i64 0, .int .u32 167772418, .int .i64 16, .bool true] 31)
  replace yc := yc.alloc (.cells #[.int .u32 168099840, .int .i64 16, .int .i64 2, .int .i64 3, .int .i64 0, .int .i64 0, .int .u32 167772418, .int .i64 16, .bool true] 31)
  replace y1 := y1.alloc (.cells #[.int .u32 168099840, .int .i64 16, .int .i64 2, .int .i64 3, .int .i64 0, .int .i64 0, .int .u32 167772418, .int .i64 16, .bool true] 31)
  replace y2 := y2.alloc (.cells #[.int .u32 168099840, .int .i64 16, .int .i64 2, .int .i64 3, .int .i64 0, .int .i64 0, .int .u32 167772418, .int .i64 16, .bool true] 31)
  replace BB := balloc BB (.cells #[.int .u32 168099840, .int .i64 16, .int .i64 2, .int .i64 3, .int .i64 0, .int .i64 0, .int .u32 167772418, .int .i64 16, .bool true] 31)
  have hz2 : w2.heap.size < (w2.alloc (.cells #[.int .u32 168099840, .int .i64 16, .int .i64 2, .int .i64 3, .int .i64 0, .int .i64 0, .int .u32 167772418, .int .i64 16, .bool true] 31)).heap.size := by simp
  have k0 := (yc).cell 0
  have k1 := (yc).cell 1
  have k2 := (yc).cell 2
  have k3 := (yc).cell 3
  have k4 := (yc).cell 4
  have k5 := (yc).cell 5
  have k6 := (yc).cell 6
  have k7 := (yc).cell 7
  have k8 := (yc).cell 8
  simp only [List.getElem?_toArray, List.getElem?_cons_zero, List.getElem?_cons_succ] at k0 k1 k2 k3 k4 k5 k6 k7 k8
  have e0 := (y1).cell 0
  have e1 := (y1).cell 1
  have e2 := (y1).cell 2
  simp only [List.getElem?_toArray, List.getElem?_cons_zero, List.getElem?_cons_succ] at e0 e1 e2
  have c0 := (yr).cell 0
  have c1 := (yr).cell 1
  have c2 := (yr).cell 2
  have c3 := (yr).cell 3
  have c4 := (yr).cell 4
  have c5 := (yr).cell 5
  have c6 := (yr).cell 6
  have c7 := (yr).cell 7
  have c8 := (yr).cell 8
  simp only [List.getElem?_toArray, List.getElem?_cons_zero, List.getElem?_cons_succ] at c0 c1 c2 c3 c4 c5 c6 c7 c8
  have Y := Lib.hid (And.intro yres (And.intro yc (And.intro y1 (And.intro y2 (And.intro yr BB)))))
  clear yres yc y1 y2 yr BB
  gi_wp2_with fail
  refine ⟨trivial, ?_⟩
  refine (callsIn_wide.2 (hear_w2 _ (CW.out _ (Y.out.2.2.2.2.2)))).mono ?_
  rintro e w3 ⟨rfl, b3⟩
  have hs3 := b3.size
  simp only [World.size_alloc] at hs3
  obtain ⟨yres, yc, y1, y2, yr, BB⟩ := Y.out
  clear k0 k1 k2 k3 k4 k5 k6 k7 k8 e0 e1 e2 c0 c1 c2 c3 c4 c5 c6 c7 c8
  replace yres := yres.below b3 yres.lt
  replace yc := yc.below b3 yc.lt
  replace y1 := y1.below b3 y1.lt
  replace y2 := y2.below b3 y2.lt
  replace yr := yr.below b3 yr.lt
  replace BB := bnext BB b3
  clear b3
  have ys := Blk.new w3 31 #[.int .u32 168099840, .int .i64 16, .int .i64 2, .int .i64 3, .int .i64 0, .int .i64 0, .int .u32 167772418, .int .i64 18, .bool true]
  replace yres := yres.alloc (.cells #[.int .u32 168099840, .int .i64 16, .int .i64 2, .int .i64 3, .int .i64 0, .int .i64 0, .int .u32 167772418, .int .i64 18, .bool true] 31)
  replace yc := yc.alloc (.cells #[.int .u32 168099840, .int .i64 16, .int .i64 2, .int .i64 3, .int .i64 0, .int .i64 0, .int .u32 167772418, .int .i64 18, .bool true] 31)
  replace y1 := y1.alloc (.cells #[.int .u32 168099840, .int .i64 16, .int .i64 2, .int .i64 3, .int .i64 0, .int .i64 0, .int .u32 167772418, .int .i64 18, .bool true] 31)
  replace y2 := y2.alloc (.cells #[.int .u32 168099840, .int .i64 16, .int .i64 2, .int .i64 3, .int .i64 0, .int .i64 0, .int .u32 167772418, .int .i64 18, .bool true] 31)
  replace yr := yr.alloc (.cells #[.int .u32 168099840, .int .i64 16, .int .i64 2, .int .i64 3, .int .i64 0, .int .i64 0, .int .u32 167772418, .int .i64 18, .bool true] 31)
  replace BB := balloc BB (.cells #[.int .u32 168099840, .int .i64 16, .int .i64 2, .int .i64 3, .int .i64 0, .int .i64 0, .int .u32 167772418, .int .i64 18, .bool true] 31)
  have hz3 : w3.heap.size < (w3.alloc (.cells #[.int .u32 168099840, .int .i64 16, .int .i64 2, .int .i64 3, .int .i64 0, .int .i64 0, .int .u32 167772418, .int .i64 18, .bool true] 31)).heap.size := by simp
  have t0 := (y1).cell 0
  have t1 := (y1).cell 1
  have t2 := (y1).cell 2
  simp only [List.getElem?_toArray, List.getElem?_cons_zero, List.getElem?_cons_succ] at t0 t1 t2
  have tf := y1.frozen 2
  have hlt1 := y1.lt
  have hlt2 := y2.lt
  replace yres := yres.far (p := ⟨w1.heap.size + 1, 2, none⟩) (by show ¬ _ = w1.heap.size + 1; omega) (.int .i64 16)
  replace yc := yc.far (p := ⟨w1.heap.size + 1, 2, none⟩) (by show ¬ _ = w1.heap.size + 1; omega) (.int .i64 16)
  replace y1 := y1.set 2 (.int .i64 16)
  simp only [List.setIfInBounds_toArray, List.set_cons_zero, List.set_cons_succ] at y1
  replace y2 := y2.far (p := ⟨w1.heap.size + 1, 2, none⟩) (by show ¬ _ = w1.heap.size + 1; omega) (.int .i64 16)
  replace yr := yr.far (p := ⟨w1.heap.size + 1, 2, none⟩) (by show ¬ _ = w1.heap.size + 1; omega) (.int .i64 16)
  replace ys := ys.far (p := ⟨w1.heap.size + 1, 2, none⟩) (by show ¬ _ = w1.heap.size + 1; omega) (.int .i64 16)
  replace BB := BB.setCell (p := ⟨w1.heap.size + 1, 2, none⟩) (by show w.heap.size ≤ w1.heap.size + 1; omega) (.int .i64 16)
  have hzz2 : ((w3.alloc (.cells #[.int .u32 168099840, .int .i64 16, .int .i64 2, .int .i64 3, .int .i64 0, .int .i64 0, .int .u32 167772418, .int .i64 18, .bool true] 31)).setCell ⟨w1.heap.size + 1, 2, none⟩ (.int .i64 16)).heap.size = w3.heap.size + 1 := by simp
  have Y := Lib.hid (And.intro yres (And.intro yc (And.intro y1 (And.intro y2 (And.intro yr (And.intro ys BB))))))
  clear yres yc y1 y2 yr ys BB
  gi_upto_region 6 with (fail)
  clear t0 t1 t2 tf hlt1 hlt2
  generalize ((w3.alloc (.cells #[.int .u32 168099840, .int .i64 16, .int .i64 2, .int .i64 3, .int .i64 0, .int .i64 0, .int .u32 167772418, .int .i64 18, .bool true] 31)).setCell ⟨w1.heap.size + 1, 2, none⟩ (.int .i64 16)) = x2 at *
  obtain ⟨yres, yc, y1, y2, yr, ys, BB⟩ := Y.out
  have k0 := (yc).cell 0
  have k1 := (yc).cell 1
  have k2 := (yc).cell 2
  have k3 := (yc).cell 3
  have k4 := (yc).cell 4
  have k5 := (yc).cell 5
  have k6 := (yc).cell 6
  have k7 := (yc).cell 7
  have k8 := (yc).cell 8
  simp only [List.getElem?_toArray, List.getElem?_cons_zero, List.getElem?_cons_succ] at k0 k1 k2 k3 k4 k5 k6 k7 k8
  have e0 := (y1).cell 0
  have e1 := (y1).cell 1
  have e2 := (y1).cell 2
  simp only [List.getElem?_toArray, List.getElem?_cons_zero, List.getElem?_cons_succ] at e0 e1 e2
  have c0 := (ys).cell 0
  have c1 := (ys).cell 1
  have c2 := (ys).cell 2
  have c3 := (ys).cell 3
  have c4 := (ys).cell 4
  have c5 := (ys).cell 5
  have c6 := (ys).cell 6
  have c7 := (ys).cell 7
  have c8 := (ys).cell 8
  simp only [List.getElem?_toArray, List.getElem?_cons_zero, List.getElem?_cons_succ] at c0 c1 c2 c3 c4 c5 c6 c7 c8
  have Y := Lib.hid (And.intro yres (And.intro yc (And.intro y1 (And.intro y2 (And.intro yr (And.intro ys BB))))))
  clear yres yc y1 y2 yr ys BB
  gi_wp2_with fail
  refine ⟨trivial, ?_⟩
  refine (callsIn_wide.2 (hear_w3 _ (CW.out _ (Y.out.2.2.2.2.2.2)))).mono ?_
  rintro e w4 ⟨rfl, b4⟩
  have hs4 := b4.size
  have hsq4 := hs4
  obtain ⟨yres, yc, y1, y2, yr, ys, BB⟩ := Y.out
  clear k0 k1 k2 k3 k4 k5 k6 k7 k8 e0 e1 e2 c0 c1 c2 c3 c4 c5 c6 c7 c8
  replace yres := yres.below b4 yres.lt
  replace yc := yc.below b4 yc.lt
  replace y1 := y1.below b4 y1.lt
  replace y2 := y2.below b4 y2.lt
  replace yr := yr.below b4 yr.lt
  replace ys := ys.below b4 ys.lt
  replace BB := bnext BB b4
  clear b4
  have yt := Blk.new w4 31 #[.int .u32 168099840, .int .i64 16, .int .i64 3, .int .i64 16, .int .i64 3, .int .i64 0, .int .u32 167772418, .int .i64 17, .bool true]
  replace yres := yres.alloc (.cells #[.int .u32 168099840, .int .i64 16, .int .i64 3, .int .i64 16, .int .i64 3, .int .i64 0, .int .u32 167772418, .int .i64 17, .bool true] 31)
  replace yc := yc.alloc (.cells #[.int .u32 168099840, .int .i64 16, .int .i64 3, .int .i64 16, .int .i64 3, .int .i64 0, .int .u32 167772418, .int .i64 17, .bool true] 31)
  replace y1 := y1.alloc (.cells #[.int .u32 168099840, .int .i64 16, .int .i64 3, .int .i64 16, .int .i64 3, .int .i64 0, .int .u32 167772418, .int .i64 17, .bool true] 31)
  replace y2 := y2.alloc (.cells #[.int .u32 168099840, .int .i64 16, .int .i64 3, .int .i64 16, .int .i64 3, .int .i64 0, .int .u32 167772418, .int .i64 17, .bool true] 31)
  replace yr := yr.alloc (.cells #[.int .u32 168099840, .int .i64 16, .int .i64 3, .int .i64 16, .int .i64 3, .int .i64 0, .int .u32 167772418, .int .i64 17, .bool true] 31)
  replace ys := ys.alloc (.cells #[.int .u32 168099840, .int .i64 16, .int .i64 3, .int .i64 16, .int .i64 3, .int .i64 0, .int .u32 167772418, .int .i64 17, .bool true] 31)
  replace BB := balloc BB (.cells #[.int .u32 168099840, .int .i64 16, .int .i64 3, .int .i64 16, .int .i64 3, .int .i64 0, .int .u32 167772418, .int .i64 17, .bool true] 31)
  have hz4 : w4.heap.size < (w4.alloc (.cells #[.int .u32 168099840, .int .i64 16, .int .i64 3, .int .i64 16, .int .i64 3, .int .i64 0, .int .u32 167772418, .int .i64 17, .bool true] 31)).heap.size := by simp
  have k0 := (yc).cell 0
  have k1 := (yc).cell 1
  have k2 := (yc).cell 2
  have k3 := (yc).cell 3
  have k4 := (yc).cell 4
  have k5 := (yc).cell 5
  have k6 := (yc).cell 6
  have k7 := (yc).cell 7
  have k8 := (yc).cell 8
  simp only [List.getElem?_toArray, List.getElem?_cons_zero, List.getElem?_cons_succ] at k0 k1 k2 k3 k4 k5 k6 k7 k8
  have e0 := (y2).cell 0
  have e1 := (y2).cell 1
  have e2 := (y2).cell 2
  simp only [List.getElem?_toArray, List.getElem?_cons_zero, List.getElem?_cons_succ] at e0 e1 e2
  have c0 := (yt).cell 0
  have c1 := (yt).cell 1
  have c2 := (yt).cell 2
  have c3 := (yt).cell 3
  have c4 := (yt).cell 4
  have c5 := (yt).cell 5
  have c6 := (yt).cell 6
  have c7 := (yt).cell 7
  have c8 := (yt).cell 8
  simp only [List.getElem?_toArray, List.getElem?_cons_zero, List.getElem?_cons_succ] at c0 c1 c2 c3 c4 c5 c6 c7 c8
  have Y := Lib.hid (And.intro yres (And.intro yc (And.intro y1 (And.intro y2 (And.intro yr (And.intro ys (And.intro yt BB)))))))
  clear yres yc y1 y2 yr ys yt BB
  gi_wp2_with fail
  refine ⟨trivial, ?_⟩
  refine (callsIn_wide.2 (hear_w4 _ (CW.out _ (Y.out.2.2.2.2.2.2.2)))).mono ?_
  rintro e w5 ⟨rfl, b5⟩
  have hs5 := b5.size
  simp only [World.size_alloc] at hs5
  obtain ⟨yres, yc, y1, y2, yr, ys, yt, BB⟩ := Y.out
  clear k0 k1 k2 k3 k4 k5 k6 k7 k8 e0 e1 e2 c0 c1 c2 c3 c4 c5 c6 c7 c8
  replace yres := yres.below b5 yres.lt
  replace yc := yc.below b5 yc.lt
  replace y1 := y1.below b5 y1.lt
  replace y2 := y2.below b5 y2.lt
  replace yr := yr.below b5 yr.lt
  replace ys := ys.below b5 ys.lt
  replace yt := yt.below b5 yt.lt
  replace BB := bnext BB b5
  clear b5
  have yu := Blk.new w5 31 #[.int .u32 168099840, .int .i64 16, .int .i64 3, .int .i64 16, .int .i64 3, .int .i64 0, .int .u32 167772418, .int .i64 17, .bool true]
  replace yres := yres.alloc (.cells #[.int .u32 168099840, .int .i64 16, .int .i64 3, .int .i64 16, .int .i64 3, .int .i64 0, .int .u32 167772418, .int .i64 17, .bool true] 31)
  replace yc := yc.alloc (.cells #[.int .u32 168099840, .int .i64 16, .int .i64 3, .int .i64 16, .int .i64 3, .int .i64 0, .int .u32 167772418, .int .i64 17, .bool true] 31)
  replace y1 := y1.alloc (.cells #[.int .u32 168099840, .int .i64 16, .int .i64 3, .int .i64 16, .int .i64 3, .int .i64 0, .int .u32 167772418, .int .i64 17, .bool true] 31)
  replace y2 := y2.alloc (.cells #[.int .u32 168099840, .int .i64 16, .int .i64 3, .int .i64 16, .int .i64 3, .int .i64 0, .int .u32 167772418, .int .i64 17, .bool true] 31)
  replace yr := yr.alloc (.cells #[.int .u32 168099840, .int .i64 16, .int .i64 3, .int .i64 16, .int .i64 3, .int .i64 0, .int .u32 167772418, .int .i64 17, .bool true] 31)
  replace ys := ys.alloc (.cells #[.int .u32 168099840, .int .i64 16, .int .i64 3, .int .i64 16, .int .i64 3, .int .i64 0, .int .u32 167772418, .int .i64 17, .bool true] 31)
  replace yt := yt.alloc (.cells #[.int .u32 168099840, .int .i64 16, .int .i64 3, .int .i64 16, .int .i64 3, .int .i64 0, .int .u32 167772418, .int .i64 17, .bool true] 31)
  replace BB := balloc BB (.cells #[.int .u32 168099840, .int .i64 16, .int .i64 3, .int .i64 16, .int .i64 3, .int .i64 0, .int .u32 167772418, .int .i64 17, .bool true] 31)
  have hz5 : w5.heap.size < (w5.alloc (.cells #[.int .u32 168099840, .int .i64 16, .int .i64 3, .int .i64 16, .int .i64 3, .int .i64 0, .int .u32 167772418, .int .i64 17, .bool true] 31)).heap.size := by simp
  have t0 := (y2).cell 0
  have t1 := (y2).cell 1
  have t2 := (y2).cell 2
  simp only [List.getElem?_toArray, List.getElem?_cons_zero, List.getElem?_cons_succ] at t0 t1 t2
  have tf := y2.frozen 2
  have hlt1 := y1.lt
  have hlt2 := y2.lt
  replace yres := yres.far (p := ⟨w1.heap.size + 1 + 1, 2, none⟩) (by show ¬ _ = w1.heap.size + 1 + 1; omega) (.int .i64 1)
  replace yc := yc.far (p := ⟨w1.heap.size + 1 + 1, 2, none⟩) (by show ¬ _ = w1.heap.size + 1 + 1; omega) (.int .i64 1)
  replace y1 := y1.far (p := ⟨w1.heap.size + 1 + 1, 2, none⟩) (by show ¬ _ = w1.heap.size + 1 + 1; omega) (.int .i64 1)
  replace y2 := y2.set 2 (.int .i64 1)
  simp only [List.setIfInBounds_toArray, List.set_cons_zero, List.set_cons_succ] at y2
  replace yr := yr.far (p := ⟨w1.heap.size + 1 + 1, 2, none⟩) (by show ¬ _ = w1.heap.size + 1 + 1; omega) (.int .i64 1)
  replace ys := ys.far (p := ⟨w1.heap.size + 1 + 1, 2, none⟩) (by show ¬ _ = w1.heap.size + 1 + 1; omega) (.int .i64 1)
  replace yt := yt.far (p := ⟨w1.heap.size + 1 + 1, 2, none⟩) (by show ¬ _ = w1.heap.size + 1 + 1; omega) (.int .i64 1)
  replace yu := yu.far (p := ⟨w1.heap.size + 1 + 1, 2, none⟩) (by show ¬ _ = w1.heap.size + 1 + 1; omega) (.int .i64 1)
  replace BB := BB.setCell (p := ⟨w1.heap.size + 1 + 1, 2, none⟩) (by show w.heap.size ≤ w1.heap.size + 1 + 1; omega) (.int .i64 1)
  have hzz4 : ((w5.alloc (.cells #[.int .u32 168099840, .int .i64 16, .int .i64 3, .int .i64 16, .int .i64 3, .int .i64 0, .int .u32 167772418, .int .i64 17, .bool true] 31)).setCell ⟨w1.heap.size + 1 + 1, 2, none⟩ (.int .i64 1)).heap.size = w5.heap.size + 1 := by simp
  have Y := Lib.hid (And.intro yres (And.intro yc (And.intro y1 (And.intro y2 (And.intro yr (And.intro ys (And.intro yt (And.intro yu BB))))))))
  clear yres yc y1 y2 yr ys yt yu BB
  gi_upto_region 9 with (fail)
  clear t0 t1 t2 tf hlt1 hlt2
  generalize ((w5.alloc (.cells #[.int .u32 168099840, .int .i64 16, .int .i64 3, .int .i64 16, .int .i64 3, .int .i64 0, .int .u32 167772418, .int .i64 17, .bool true] 31)).setCell ⟨w1.heap.size + 1 + 1, 2, none⟩ (.int .i64 1)) = x4 at *
  obtain ⟨yres, yc, y1, y2, yr, ys, yt, yu, BB⟩ := Y.out
  have k0 := (yc).cell 0
  have k1 := (yc).cell 1
  have k2 := (yc).cell 2
  have k3 := (yc).cell 3
  have k4 := (yc).cell 4
  have k5 := (yc).cell 5
  have k6 := (yc).cell 6
  have k7 := (yc).cell 7
  have k8 := (yc).cell 8
  simp only [List.getElem?_toArray, List.getElem?_cons_zero, List.getElem?_cons_succ] at k0 k1 k2 k3 k4 k5 k6 k7 k8
  have e0 := (y2).cell 0
  have e1 := (y2).cell 1
  have e2 := (y2).cell 2
  simp only [List.getElem?_toArray, List.getElem?_cons_zero, List.getElem?_cons_succ] at e0 e1 e2
  have c0 := (yu).cell 0
  have c1 := (yu).cell 1
  have c2 := (yu).cell 2
  have c3 := (yu).cell 3
  have c4 := (yu).cell 4
  have c5 := (yu).cell 5
  have c6 := (yu).cell 6
  have c7 := (yu).cell 7
  have c8 := (yu).cell 8
  simp only [List.getElem?_toArray, List.getElem?_cons_zero, List.getElem?_cons_succ] at c0 c1 c2 c3 c4 c5 c6 c7 c8
  have Y := Lib.hid (And.intro yres (And.intro yc (And.intro y1 (And.intro y2 (And.intro yr (And.intro ys (And.intro yt (And.intro yu BB))))))))
  clear yres yc y1 y2 yr ys yt yu BB
  gi_wp2_with fail
  refine ⟨trivial, ?_⟩
  refine (callsIn_wide.2 (hear_w5 _ (CW.out _ (Y.out.2.2.2.2.2.2.2.2)))).mono ?_
  rintro e w6 ⟨rfl, b6⟩
  have hs6 := b6.size
  have hsq6 := hs6
  obtain ⟨yres, yc, y1, y2, yr, ys, yt, yu, BB⟩ := Y.out
  clear k0 k1 k2 k3 k4 k5 k6 k7 k8 e0 e1 e2 c0 c1 c2 c3 c4 c5 c6 c7 c8
  replace yres := yres.below b6 yres.lt
  replace yc := yc.below b6 yc.lt
  replace y1 := y1.below b6 y1.lt
  replace y2 := y2.below b6 y2.lt
  replace yr := yr.below b6 yr.lt
  replace ys := ys.below b6 ys.lt
  replace yt := yt.below b6 yt.lt
  replace yu := yu.below b6 yu.lt
  replace BB := bnext BB b6
  clear b6
  have yv := Blk.new w6 31 #[.int .u32 168099840, .int .i64 16, .int .i64 2, .int .i64 2, .int .i64 0, .int .i64 1, .int .u32 167772674, .int .i64 19, .bool true]
  replace yres := yres.alloc (.cells #[.int .u32 168099840, .int .i64 16, .int .i64 2, .int .i64 2, .int .i64 0, .int .i64 1, .int .u32 167772674, .int .i64 19, .bool true] 31)
  replace yc := yc.alloc (.cells #[.int .u32 168099840, .int .i64 16, .int .i64 2, .int .i64 2, .int .i64 0, .int .i64 1, .int .u32 167772674, .int .i64 19, .bool true] 31)
  replace y1 := y1.alloc (.cells #[.int .u32 168099840, .int .i64 16, .int .i64 2, .int .i64 2, .int .i64 0, .int .i64 1, .int .u32 167772674, .int .i64 19, .bool true] 31)
  replace y2 := y2.alloc (.cells #[.int .u32 168099840, .int .i64 16, .int .i64 2, .int .i64 2, .int .i64 0, .int .i64 1, .int .u32 167772674, .int .i64 19, .bool true] 31)
  replace yr := yr.alloc (.cells #[.int .u32 168099840, .int .i64 16, .int .i64 2, .int .i64 2, .int .i64 0, .int .i64 1, .int .u32 167772674, .int .i64 19, .bool true] 31)
  replace ys := ys.alloc (.cells #[.int .u32 168099840, .int .i64 16, .int .i64 2, .int .i64 2, .int .i64 0, .int .i64 1, .int .u32 167772674, .int .i64 19, .bool true] 31)
  replace yt := yt.alloc (.cells #[.int .u32 168099840, .int .i64 16, .int .i64 2, .int .i64 2, .int .i64 0, .int .i64 1, .int .u32 167772674, .int .i64 19, .bool true] 31)
  replace yu := yu.alloc (.cells #[.int .u32 168099840, .int .i64 16, .int .i64 2, .int .i64 2, .int .i64 0, .int .i64 1, .int .u32 167772674, .int .i64 19, .bool true] 31)
  replace BB := balloc BB (.cells #[.int .u32 168099840, .int .i64 16, .int .i64 2, .int .i64 2, .int .i64 0, .int .i64 1, .int .u32 167772674, .int .i64 19, .bool true] 31)
  have k0 := (yc).cell 0
  have k1 := (yc).cell 1
  have k2 := (yc).cell 2
  have k3 := (yc).cell 3
  have k4 := (yc).cell 4
  have k5 := (yc).cell 5
  have k6 := (yc).cell 6
  have k7 := (yc).cell 7
  have k8 := (yc).cell 8
  simp only [List.getElem?_toArray, List.getElem?_cons_zero, List.getElem?_cons_succ] at k0 k1 k2 k3 k4 k5 k6 k7 k8
  have c0 := (yr).cell 0
  have c1 := (yr).cell 1
  have c2 := (yr).cell 2
  have c3 := (yr).cell 3
  have c4 := (yr).cell 4
  have c5 := (yr).cell 5
  have c6 := (yr).cell 6
  have c7 := (yr).cell 7
  have c8 := (yr).cell 8
  simp only [List.getElem?_toArray, List.getElem?_cons_zero, List.getElem?_cons_succ] at c0 c1 c2 c3 c4 c5 c6 c7 c8
  have d0 := (ys).cell 0
  have d1 := (ys).cell 1
  have d2 := (ys).cell 2
  have d3 := (ys).cell 3
  have d4 := (ys).cell 4
  have d5 := (ys).cell 5
  have d6 := (ys).cell 6
  have d7 := (ys).cell 7
  have d8 := (ys).cell 8
  simp only [List.getElem?_toArray, List.getElem?_cons_zero, List.getElem?_cons_succ] at d0 d1 d2 d3 d4 d5 d6 d7 d8
  have e0 := (yt).cell 0
  have e1 := (yt).cell 1
  have e2 := (yt).cell 2
  have e3 := (yt).cell 3
  have e4 := (yt).cell 4
  have e5 := (yt).cell 5
  have e6 := (yt).cell 6
  have e7 := (yt).cell 7
  have e8 := (yt).cell 8
  simp only [List.getElem?_toArray, List.getElem?_cons_zero, List.getElem?_cons_succ] at e0 e1 e2 e3 e4 e5 e6 e7 e8
  have f0 := (yu).cell 0
  have f1 := (yu).cell 1
  have f2 := (yu).cell 2
  have f3 := (yu).cell 3
  have f4 := (yu).cell 4
  have f5 := (yu).cell 5
  have f6 := (yu).cell 6
  have f7 := (yu).cell 7
  have f8 := (yu).cell 8
  simp only [List.getElem?_toArray, List.getElem?_cons_zero, List.getElem?_cons_succ] at f0 f1 f2 f3 f4 f5 f6 f7 f8
  have g0 := (yv).cell 0
  have g1 := (yv).cell 1
  have g2 := (yv).cell 2
  have g3 := (yv).cell 3
  have g4 := (yv).cell 4
  have g5 := (yv).cell 5
  have g6 := (yv).cell 6
  have g7 := (yv).cell 7
  have g8 := (yv).cell 8
  simp only [List.getElem?_toArray, List.getElem?_cons_zero, List.getElem?_cons_succ] at g0 g1 g2 g3 g4 g5 g6 g7 g8
  have hNR := fun W => ne_rt 168099840 16 3 16 3 0 167772418 17 168099840 16 3 16 3 0 167772418 17 true true W
  simp only [beq_self_eq_true, Bool.and_self, Bool.not_true] at hNR
  have Y := Lib.hid (And.intro yres (And.intro yc (And.intro y1 (And.intro y2 (And.intro yr (And.intro ys (And.intro yt (And.intro yu (And.intro yv BB)))))))))
  clear yres yc y1 y2 yr ys yt yu yv BB
  gi_wp2_with (first | (refine ⟨trivial, ?_⟩; gi_at_call 12; refine (callsIn_wide.2 (num_any _ _)).mono ?_; rintro e wn ⟨rfl, rfl⟩))
  refine ⟨trivial, ?_⟩
  refine (callsIn_wide.2 (life_w _ (CW.out _ (Y.out.2.2.2.2.2.2.2.2.2)))).mono ?_
  rintro e w7 ⟨lb, rfl, hE, b7⟩
  obtain ⟨yres, yc, y1, y2, yr, ys, yt, yu, yv, BB⟩ := Y.out
  clear k0 k1 k2 k3 k4 k5 k6 k7 k8 c0 c1 c2 c3 c4 c5 c6 c7 c8 d0 d1 d2 d3 d4 d5 d6 d7 d8 e0 e1 e2 e3 e4 e5 e6 e7 e8 f0 f1 f2 f3 f4 f5 f6 f7 f8 g0 g1 g2 g3 g4 g5 g6 g7 g8
  replace yres := yres.below b7 yres.lt
  replace yc := yc.below b7 yc.lt
  replace y1 := y1.below b7 y1.lt
  replace y2 := y2.below b7 y2.lt
  replace yr := yr.below b7 yr.lt
  replace ys := ys.below b7 ys.lt
  replace yt := yt.below b7 yt.lt
  replace yu := yu.below b7 yu.lt
  replace yv := yv.below b7 yv.lt
  replace BB := bnext BB b7
  clear hNR
  have X := Lib.hid (And.intro hE BB)
  have hs7 := BB.size
  have Y := Lib.hid (And.intro yres (And.intro yc (And.intro y1 (And.intro y2 (And.intro yr (And.intro ys (And.intro yt (And.intro yu (And.intro yv BB)))))))))
  clear yres yc y1 y2 yr ys yt yu yv BB
  clear hE b7
  gi_wp2_with fail
  have bn1 := Boxed.new w7 3 (.int .i64 0)
  have bl1 : Below w7.heap.size w7 (w7.alloc (.cells #[.int .i64 0] 3)) := balloc (Below.refl _ _) _
  have hnl1 := bn1.lt
  have hw7 : w7.heap.size ≤ (w7.alloc (.cells #[.int .i64 0] 3)).heap.size := bl1.size
  generalize hgn1 : w7.alloc (.cells #[.int .i64 0] 3) = Wn1 at *
  clear hgn1
  refine wpIn_rangeFunc_ownH rfl (by omega) (gf := 39) (lb := lb) rfl trivial (enters_of Tryd.func39 (by kernel_rfl) rfl)
    (life_stops 5 (by omega) w7.heap.size lifeW lb Wn1 (by decide) w7 X.out.1 bl1 (by omega) (by omega)) belowK_t (belowK_b (by omega)) (Below.refl _ _) (fun _ => rfl)
    (RI Wn1 w7.heap.size (fun _ => True)) (RX Wn1 w7.heap.size 2 (fun _ => False)) (RI_own hnl1 (Nat.le_refl _)) (RX_own hnl1 (Nat.le_refl _)) ⟨⟨bn1, Below.refl _ _⟩, by simp⟩
    (AxB w7.heap.size 31 (stW lifeW) ?b11) AxB_own ?bssign1 ?bbody1 ?bdone1 ?bstop1
  case bssign1 =>
    rintro lp pre x W K ⟨⟨hn, hbW⟩, hp⟩ hK
    have hnl := hn.lt
    simp only [stE, stW]
    gi_wp2
    obtain ⟨Bx, hBx⟩ : ∃ Bx, W.heap.size = Bx := ⟨_, rfl⟩
    have bX := Blk.new W 31 (stW lifeW x)
    unfold stW at bX
    rw [hBx] at bX ⊢
    have hK' := hK (?b11 x Bx) _ ((KeepsOthers.alloc _ _).from _) ((Below.refl _ W).alloc (Nat.le_of_lt hnl) _) ⟨⟨hn.alloc _, hbW.alloc (Nat.le_of_lt hnl) _⟩, hp⟩ ⟨Bx, by omega, bX, rfl⟩
    exact hK'
  case bbody1 =>
    rintro lp pre x a' W hlp _ ⟨⟨hn, hbW⟩, hp⟩ ⟨Bx, hBx, bX, rfl⟩ hlt
    clear hp
    have hb2 : Below w7.heap.size w7 W := bl1.trans hbW
    have yr2 := Y.out.1.below hb2 Y.out.1.lt
    have q2 := yr2.cell 0
    have k2 := yr2.frozen 0
    simp only [List.getElem?_toArray, List.getElem?_cons_zero] at q2
    have qn := hn.cell
    have kn := hn.frozen
    unfold stW at bX
    have hlt3 : pre.length < 3 := hlt
    have hi1 := fun W => idx_t pre.length hlt3 W
    have hi2 := fun W => idx_s pre.length hlt3 W
    have hi3 : decide ((2 : Int) < pre.length) = false := by simp; omega
    have hHX : x = pre.length → stT lifeW x = kT pre.length ∧ (stQ lifeW x).st = kS pre.length := by
      rintro rfl
      exact lifeW_at _ hlt3
    generalize stQ lifeW x = r1 at *
    obtain ⟨a1, m1, st1, me1, lo1, fa1, nx1, du1, ch1⟩ := r1
    simp only at bX hHX
    generalize kT pre.length = KT at *
    generalize kS pre.length = KS1 at *
    have HX := Lib.hid hHX
    clear hHX
    have m0 := (bX).cell 0
    have m1 := (bX).cell 1
    have m2 := (bX).cell 2
    have m3 := (bX).cell 3
    have m4 := (bX).cell 4
    have m5 := (bX).cell 5
    have m6 := (bX).cell 6
    have m7 := (bX).cell 7
    have m8 := (bX).cell 8
    simp only [List.getElem?_toArray, List.getElem?_cons_zero, List.getElem?_cons_succ] at m0 m1 m2 m3 m4 m5 m6 m7 m8
    cases e1 : (stT lifeW x != KT)
    case false =>
      cases e2 : (st1 != KS1)
      case false =>
        clear yr2 bX
        gi_wp2_with fail
        refine region_round rfl (by kernel_rfl) (by kernel_rfl) (by kernel_rfl) ?_
        repeat (gi_big_quiet_step (fail))
        refine wpQuietIn_nil ?_
        rintro _ ⟨nq, rfl⟩
        have KQ : KeepsFrom Wn1.heap.size W (W.drewN nq) := keeps_below (below_drewN (Below.refl _ _) nq)
        have BQ : Below w7.heap.size W (W.drewN nq) := below_drewN (Below.refl _ _) nq
        replace hn : Boxed (W.drewN nq) w7.heap.size 3 (.int .i64 pre.length) := hn
        have qn' := hn.cell
        have kn' := hn.frozen
        have hbW' : Below w7.heap.size Wn1 (W.drewN nq) := hbW.trans BQ
        clear m0 m1 m2 m3 m4 m5 m6 m7 m8 q2 k2 qn kn hb2 hi1 hi2 hi3
        generalize W.drewN nq = Wq at *
        have hIn : Boxed (Wq.setCell ⟨w7.heap.size, 0, none⟩ (.int .i64 (pre ++ [x]).length)) w7.heap.size 3 (.int .i64 (pre ++ [x]).length) := hn.set _
        have hBn : Below w7.heap.size Wn1 (Wq.setCell ⟨w7.heap.size, 0, none⟩ (.int .i64 (pre ++ [x]).length)) := hbW'.setCell (p := ⟨w7.heap.size, 0, none⟩) (Nat.le_refl _) _
        simp only [List.length_append, List.length_singleton, Int.natCast_add, Int.natCast_one] at hIn hBn
        have HIN := Lib.hid hIn
        have HBN := Lib.hid hBn
        clear hIn hBn
        have KF : KeepsFrom Wn1.heap.size W (Wq.setCell ⟨w7.heap.size, 0, none⟩ (.int .i64 ((pre.length : Int) + 1))) := KQ.trans ((KeepsOthers.setCell _ _ _).from _)
        have KB : Below w7.heap.size W (Wq.setCell ⟨w7.heap.size, 0, none⟩ (.int .i64 ((pre.length : Int) + 1))) := BQ.trans ((Below.refl w7.heap.size Wq).setCell (p := ⟨w7.heap.size, 0, none⟩) (Nat.le_refl _) _)
        gi_wp2
        exact ⟨KF, KB, ⟨by simpa using HIN.out, by simpa using HBN.out⟩, trivial⟩
      case true =>
        have hx : ¬ x = pre.length := fun h => by have := (HX.out h).2; simp [this] at e2
        have HNX := Lib.hid hx
        clear hx yr2 bX
        gi_wp2_with fail
        refine region_round rfl (by kernel_rfl) (by kernel_rfl) (by kernel_rfl) ?_
        repeat (gi_big_quiet_step (fail))
        refine wpQuietIn_nil ?_
        rintro _ ⟨nq, rfl⟩
        have q2' : (W.drewN nq).cell? ⟨w.heap.size, 0, none⟩ = some (.bool false) := q2
        have k2' : (W.drewN nq).frozen? ⟨w.heap.size, 0, none⟩ = false := k2
        gi_wp2
        exact ⟨(keeps_below (below_drewN (Below.refl _ _) nq)).trans ((KeepsOthers.setCell _ _ _).from _), .inl ⟨rfl, fun h => HNX.out (range_last h).1⟩⟩
    case true =>
      have hx : ¬ x = pre.length := fun h => by have := (HX.out h).1; simp [this] at e1
      have HNX := Lib.hid hx
      clear hx yr2 bX
      gi_wp2_with fail
      refine region_round rfl (by kernel_rfl) (by kernel_rfl) (by kernel_rfl) ?_
      repeat (gi_big_quiet_step (fail))
      refine wpQuietIn_nil ?_
      rintro _ ⟨nq, rfl⟩
      have q2' : (W.drewN nq).cell? ⟨w.heap.size, 0, none⟩ = some (.bool false) := q2
      have k2' : (W.drewN nq).frozen? ⟨w.heap.size, 0, none⟩ = false := k2
      gi_wp2
      exact ⟨(keeps_below (below_drewN (Below.refl _ _) nq)).trans ((KeepsOthers.setCell _ _ _).from _), .inl ⟨rfl, fun h => HNX.out (range_last h).1⟩⟩
  case bdone1 =>
    rintro D1 zs We hD1 rfl ⟨⟨hn, hbW⟩, hp⟩ hK1
    simp only [List.length_range, show lifeW.length = 3 from rfl] at hn
    have hb2 : Below w7.heap.size w7 We := bl1.trans hbW
    obtain ⟨yres, yc, y1, y2, yr, ys, yt, yu, yv, BB⟩ := Y.out
    replace yres := yres.below hb2 yres.lt
    replace yr := yr.below hb2 yr.lt
    replace yt := yt.below hb2 yt.lt
    replace BB := bnext BB hb2
    have qn := hn.cell
    have hlD1 : D1 < We.heap.size := (Array.getElem?_eq_some_iff.1 hK1).1
    have c0 := (yr).cell 0
    have c1 := (yr).cell 1
    have c2 := (yr).cell 2
    have c3 := (yr).cell 3
    have c4 := (yr).cell 4
    have c5 := (yr).cell 5
    have c6 := (yr).cell 6
    have c7 := (yr).cell 7
    have c8 := (yr).cell 8
    simp only [List.getElem?_toArray, List.getElem?_cons_zero, List.getElem?_cons_succ] at c0 c1 c2 c3 c4 c5 c6 c7 c8
    have Y2 := Lib.hid (And.intro yres (And.intro yr (And.intro yt (And.intro BB hK1))))
    clear yres yc y1 y2 yr ys yt yu yv BB hK1
    gi_wp2_with fail
    refine ⟨trivial, ?_⟩
    refine (callsIn_wide.2 (told_w1 _)).mono ?_
    rintro e w8 ⟨rfl, b8⟩
    obtain ⟨yres, yr, yt, BB, hK1⟩ := Y2.out
    replace yres := yres.below b8 yres.lt
    replace yr := yr.below b8 yr.lt
    replace yt := yt.below b8 yt.lt
    replace BB := bnext BB b8
    replace hK1 := (b8.block D1 hlD1).trans hK1
    have hs8 := b8.size
    clear c0 c1 c2 c3 c4 c5 c6 c7 c8
    have c0 := (yr).cell 0
    have c1 := (yr).cell 1
    have c2 := (yr).cell 2
    have c3 := (yr).cell 3
    have c4 := (yr).cell 4
    have c5 := (yr).cell 5
    have c6 := (yr).cell 6
    have c7 := (yr).cell 7
    have c8 := (yr).cell 8
    simp only [List.getElem?_toArray, List.getElem?_cons_zero, List.getElem?_cons_succ] at c0 c1 c2 c3 c4 c5 c6 c7 c8
    clear qn b8
    have Y3 := Lib.hid (And.intro yres (And.intro yt (And.intro BB hK1)))
    clear yres yr yt BB hK1
    gi_wp2_with fail
    refine ⟨trivial, ?_⟩
    refine (callsIn_wide.2 (told_w2 _)).mono ?_
    rintro e w9 ⟨rfl, b9⟩
    obtain ⟨yres, yt, BB, hK1⟩ := Y3.out
    replace yres := yres.below b9 yres.lt
    replace yt := yt.below b9 yt.lt
    replace BB := bnext BB b9
    replace hK1 := (b9.block D1 (by omega)).trans hK1
    have hs9 := b9.size
    clear c0 c1 c2 c3 c4 c5 c6 c7 c8
    have c0 := (yt).cell 0
    have c1 := (yt).cell 1
    have c2 := (yt).cell 2
    have c3 := (yt).cell 3
    have c4 := (yt).cell 4
    have c5 := (yt).cell 5
    have c6 := (yt).cell 6
    have c7 := (yt).cell 7
    have c8 := (yt).cell 8
    simp only [List.getElem?_toArray, List.getElem?_cons_zero, List.getElem?_cons_succ] at c0 c1 c2 c3 c4 c5 c6 c7 c8
    clear b9
    have Y4 := Lib.hid (And.intro yres (And.intro BB hK1))
    clear yres yt BB hK1
    gi_wp2_with fail
    refine ⟨trivial, ?_⟩
    refine (callsIn_wide.2 (told_w3 _)).mono ?_
    rintro e w10 ⟨rfl, b10⟩
    obtain ⟨yres, BB, hK1⟩ := Y4.out
    replace yres := yres.below b10 yres.lt
    replace BB := bnext BB b10
    replace hK1 := (b10.block D1 (by omega)).trans hK1
    clear c0 c1 c2 c3 c4 c5 c6 c7 c8
    clear b10
    have q0 := yres.cell 0
    have k0 := yres.frozen 0
    simp only [List.getElem?_toArray, List.getElem?_cons_zero] at q0
    have Y5 := Lib.hid (And.intro yres (And.intro BB hK1))
    clear yres BB hK1
    gi_wp2_with fail
    obtain ⟨yres, BB, hK1⟩ := Y5.out
    clear q0 k0
    have bz : Below w.heap.size w (w10.setCell ⟨w.heap.size, 0, none⟩ (.bool true)) := BB.setCell (p := ⟨w.heap.size, 0, none⟩) (Nat.le_refl _) _
    have K1' := (KeepsOthers.setCell w10 ⟨w.heap.size, 0, none⟩ (.bool true)).same D1 _ hK1 rfl
    have z9 := yres.set 0 (.bool true)
    simp only [List.setIfInBounds_toArray, List.set_cons_zero] at z9
    have r9 := z9.cell 0
    simp only [List.getElem?_toArray, List.getElem?_cons_zero] at r9
    clear z9 yres hK1 BB Y Y2 Y3 Y4 Y5 X
    generalize w10.setCell ⟨w.heap.size, 0, none⟩ (.bool true) = wz at K1' r9 bz ⊢
    have r10 := cell_kept r9 (grownBy_putObj' _ D1 (.deferred none)) (fun r e => by cases e; exact ⟨_, K1', rfl⟩)
    refine ⟨by simp, .inl ⟨_, _, rfl, run_takeDeferred K1', ?_⟩⟩
    refine ⟨.bool true, by simp [results, Tryd.f9, go_sem, r10], rfl, ?_⟩
    exact bz.trans (belowK_b (w := w) (Nat.le_refl _) _ D1 _ _ (by omega) K1' rfl rfl)
  case bstop1 =>
    rintro D1 cc pre We hD1 ⟨jj, hjj, rfl⟩ hX hK1
    rcases hX with ⟨_, h⟩ | ⟨_, _, hp⟩
    · exact (h (by simp)).elim
    · exact hp.elim
end Go.Proofs.YtgjeejdebneoaaaDoor
