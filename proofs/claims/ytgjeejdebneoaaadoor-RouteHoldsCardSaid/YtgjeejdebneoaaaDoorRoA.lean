/- route: Expire. -/
import Derived.Test.YtgjeejdebneoaaaDoorRo9
import Derived.Deep.CutRange
namespace Go.Proofs.YtgjeejdebneoaaaDoor
set_option linter.unusedVariables false
set_option linter.unusedSimpArgs false
open Go.RowKit
set_option maxRecDepth 100000

set_option maxHeartbeats 2000000 in
theorem expire_bad (p j t h g q s cp : Int) (A : Option Addr) (n k B : Nat) (l : List (Nat × Int)) (hn : l.length = n) (a : Nat) (m st me lo fa : Int) (nx : Nat) (du : Int) (ch : Bool) (now : Int) (w : World) (hr : Rd w B A (plC l)) (hB : B ≤ w.heap.size) (hnk : n ≤ k) (hk : k ≤ 9223372036854775807) (hl : ∀ x ∈ l, x.1 < 4294967296) (hw : CapsAt w) (ha : a < 4294967296) (hx : nx < 4294967296) (hf : (okC p j t h g q s cp l && okR a m st me lo fa nx du ch) = false) :
    Calls Tryd.prog 24 #[.agg #[.int .i64 p, .int .i64 j, .int .i64 t, .int .i64 h, .int .i64 g, .int .i64 q, .int .i64 s, .int .i64 cp, .slice A n k], .agg #[.int .u32 a, .int .i64 m, .int .i64 st, .int .i64 me, .int .i64 lo, .int .i64 fa, .int .u32 nx, .int .i64 du, .bool ch], .int .i64 now] w (GivR 2 rz w) := by
  have yr := Blk.new (w.alloc (.cells #[.int .i64 p, .int .i64 j, .int .i64 t, .int .i64 h, .int .i64 g, .int .i64 q, .int .i64 s, .int .i64 cp, .slice A n k] 24)) 31 #[.int .u32 a, .int .i64 m, .int .i64 st, .int .i64 me, .int .i64 lo, .int .i64 fa, .int .u32 nx, .int .i64 du, .bool ch]
  replace yr := yr.alloc (.cells #[.int .u32 0, .int .i64 0, .int .i64 0, .int .i64 0, .int .i64 0, .int .i64 0, .int .u32 0, .int .i64 0, .bool false] 31)
  replace yr := yr.alloc (.cells #[.int .i64 0] 36)
  have yo := (Blk.new ((w.alloc (.cells #[.int .i64 p, .int .i64 j, .int .i64 t, .int .i64 h, .int .i64 g, .int .i64 q, .int .i64 s, .int .i64 cp, .slice A n k] 24)).alloc (.cells #[.int .u32 a, .int .i64 m, .int .i64 st, .int .i64 me, .int .i64 lo, .int .i64 fa, .int .u32 nx, .int .i64 du, .bool ch] 31)) 31 #[.int .u32 0, .int .i64 0, .int .i64 0, .int .i64 0, .int .i64 0, .int .i64 0, .int .u32 0, .int .i64 0, .bool false]).alloc (.cells #[.int .i64 0] 36)
  have ye := Blk.new (((w.alloc (.cells #[.int .i64 p, .int .i64 j, .int .i64 t, .int .i64 h, .int .i64 g, .int .i64 q, .int .i64 s, .int .i64 cp, .slice A n k] 24)).alloc (.cells #[.int .u32 a, .int .i64 m, .int .i64 st, .int .i64 me, .int .i64 lo, .int .i64 fa, .int .u32 nx, .int .i64 du, .bool ch] 31)).alloc (.cells #[.int .u32 0, .int .i64 0, .int .i64 0, .int .i64 0, .int .i64 0, .int .i64 0, .int .u32 0, .int .i64 0, .bool false] 31)) 36 #[.int .i64 0]
  have yc := (Blk.new w 24 #[.int .i64 p, .int .i64 j, .int .i64 t, .int .i64 h, .int .i64 g, .int .i64 q, .int .i64 s, .int .i64 cp, .slice A n k]).alloc (.cells #[.int .u32 a, .int .i64 m, .int .i64 st, .int .i64 me, .int .i64 lo, .int .i64 fa, .int .u32 nx, .int .i64 du, .bool ch] 31)
  replace yc := yc.alloc (.cells #[.int .u32 0, .int .i64 0, .int .i64 0, .int .i64 0, .int .i64 0, .int .i64 0, .int .u32 0, .int .i64 0, .bool false] 31)
  replace yc := yc.alloc (.cells #[.int .i64 0] 36)
  simp only [World.size_alloc] at yr yo ye
  have BB : Below w.heap.size w ((((w.alloc (.cells #[.int .i64 p, .int .i64 j, .int .i64 t, .int .i64 h, .int .i64 g, .int .i64 q, .int .i64 s, .int .i64 cp, .slice A n k] 24)).alloc (.cells #[.int .u32 a, .int .i64 m, .int .i64 st, .int .i64 me, .int .i64 lo, .int .i64 fa, .int .u32 nx, .int .i64 du, .bool ch] 31)).alloc (.cells #[.int .u32 0, .int .i64 0, .int .i64 0, .int .i64 0, .int .i64 0, .int .i64 0, .int .u32 0, .int .i64 0, .bool false] 31)).alloc (.cells #[.int .i64 0] 36)) := balloc (balloc (balloc (balloc (Below.refl _ _) _) _) _) _
  have H1 := Lib.hid (mustBeR_any p j t h g q s cp A n k B l hn a m st me lo fa nx du ch ((((w.alloc (.cells #[.int .i64 p, .int .i64 j, .int .i64 t, .int .i64 h, .int .i64 g, .int .i64 q, .int .i64 s, .int .i64 cp, .slice A n k] 24)).alloc (.cells #[.int .u32 a, .int .i64 m, .int .i64 st, .int .i64 me, .int .i64 lo, .int .i64 fa, .int .u32 nx, .int .i64 du, .bool ch] 31)).alloc (.cells #[.int .u32 0, .int .i64 0, .int .i64 0, .int .i64 0, .int .i64 0, .int .i64 0, .int .u32 0, .int .i64 0, .bool false] 31)).alloc (.cells #[.int .i64 0] 36)) (hr.below (BB.mono hB)) (by simp; omega) hnk hk hl (hw.below BB) ha hx)
  rw [hf, show errC false = 2 from rfl, stpE_2] at H1
  have Y := Lib.hid (And.intro yc (And.intro yr (And.intro yo (And.intro ye BB))))
  clear yc yr yo ye BB
  have hmf : ∀ (fn : Fn) (first cap : Array Value) (w : World), (Instr.makeFunc fn first cap).run Tryd.prog w = .ok (.func fn first cap) w := fun _ _ _ _ => rfl
  clear hr hl hw ha hx hf hn
  go_enter_defers Tryd.func24, Tryd.ntmps24
  go_wp2_with fail
  refine H1.out.mono ?_
  rintro e w1 ⟨rfl, b1⟩
  obtain ⟨yc, yr, yo, ye, BB⟩ := Y.out
  replace yc := yc.below b1 yc.lt
  replace yr := yr.below b1 yr.lt
  replace yo := yo.below b1 yo.lt
  replace ye := ye.below b1 ye.lt
  replace BB := bnext BB b1
  clear b1
  go_wp2_with fail
  refine leaves_cons (f := 49) (args := #[.pointer (some ⟨w.heap.size + 1 + 1, 0, none⟩), .pointer (some ⟨w.heap.size + 1 + 1 + 1, 0, none⟩)]) (by simp) (by simp [go_sem]) ?_
  with_reducible refine (expire_pan (w.heap.size + 1 + 1) (w.heap.size + 1 + 1 + 1) (.int .u32 0) (.int .i64 0) (.int .i64 0) (.int .i64 0) (.int .i64 0) (.int .i64 0) (.int .u32 0) (.int .i64 0) (.bool false) (.int .i64 0) 2 [] _ yo ye (by omega) (by omega)).mono ?_
  rintro e u' wz ⟨rfl, rfl, z1, z2, z4⟩
  have m0 := (z1).cell 0
  have m1 := (z1).cell 1
  have m2 := (z1).cell 2
  have m3 := (z1).cell 3
  have m4 := (z1).cell 4
  have m5 := (z1).cell 5
  have m6 := (z1).cell 6
  have m7 := (z1).cell 7
  have m8 := (z1).cell 8
  simp only [List.getElem?_toArray, List.getElem?_cons_zero, List.getElem?_cons_succ] at m0 m1 m2 m3 m4 m5 m6 m7 m8
  have u0 := (z2).cell 0
  simp only [List.getElem?_toArray, List.getElem?_cons_zero, List.getElem?_cons_succ] at u0
  have bz := BB.trans (z4 w.heap.size (by omega) (by omega))
  simp [Leaves, settle, results, Tryd.results24, go_sem, m0, m1, m2, m3, m4, m5, m6, m7, m8, u0]
  exact ⟨rfl, bz⟩

set_option maxHeartbeats 2000000 in
theorem expire_late (p j t h g q s cp : Int) (A : Option Addr) (n k B : Nat) (l : List (Nat × Int)) (hn : l.length = n) (a : Nat) (m st me lo fa : Int) (nx : Nat) (du : Int) (ch : Bool) (now : Int) (w : World) (hr : Rd w B A (plC l)) (hB : B ≤ w.heap.size) (hnk : n ≤ k) (hk : k ≤ 9223372036854775807) (hl : ∀ x ∈ l, x.1 < 4294967296) (hw : CapsAt w) (ha : a < 4294967296) (hx : nx < 4294967296) (hf : (okC p j t h g q s cp l && okR a m st me lo fa nx du ch) = true) (hT : inF 0 4611686018426387904 now = false) :
    Calls Tryd.prog 24 #[.agg #[.int .i64 p, .int .i64 j, .int .i64 t, .int .i64 h, .int .i64 g, .int .i64 q, .int .i64 s, .int .i64 cp, .slice A n k], .agg #[.int .u32 a, .int .i64 m, .int .i64 st, .int .i64 me, .int .i64 lo, .int .i64 fa, .int .u32 nx, .int .i64 du, .bool ch], .int .i64 now] w (GivR 170 rz w) := by
  have yr := Blk.new (w.alloc (.cells #[.int .i64 p, .int .i64 j, .int .i64 t, .int .i64 h, .int .i64 g, .int .i64 q, .int .i64 s, .int .i64 cp, .slice A n k] 24)) 31 #[.int .u32 a, .int .i64 m, .int .i64 st, .int .i64 me, .int .i64 lo, .int .i64 fa, .int .u32 nx, .int .i64 du, .bool ch]
  replace yr := yr.alloc (.cells #[.int .u32 0, .int .i64 0, .int .i64 0, .int .i64 0, .int .i64 0, .int .i64 0, .int .u32 0, .int .i64 0, .bool false] 31)
  replace yr := yr.alloc (.cells #[.int .i64 0] 36)
  have yo := (Blk.new ((w.alloc (.cells #[.int .i64 p, .int .i64 j, .int .i64 t, .int .i64 h, .int .i64 g, .int .i64 q, .int .i64 s, .int .i64 cp, .slice A n k] 24)).alloc (.cells #[.int .u32 a, .int .i64 m, .int .i64 st, .int .i64 me, .int .i64 lo, .int .i64 fa, .int .u32 nx, .int .i64 du, .bool ch] 31)) 31 #[.int .u32 0, .int .i64 0, .int .i64 0, .int .i64 0, .int .i64 0, .int .i64 0, .int .u32 0, .int .i64 0, .bool false]).alloc (.cells #[.int .i64 0] 36)
  have ye := Blk.new (((w.alloc (.cells #[.int .i64 p, .int .i64 j, .int .i64 t, .int .i64 h, .int .i64 g, .int .i64 q, .int .i64 s, .int .i64 cp, .slice A n k] 24)).alloc (.cells #[.int .u32 a, .int .i64 m, .int .i64 st, .int .i64 me, .int .i64 lo, .int .i64 fa, .int .u32 nx, .int .i64 du, .bool ch] 31)).alloc (.cells #[.int .u32 0, .int .i64 0, .int .i64 0, .int .i64 0, .int .i64 0, .int .i64 0, .int .u32 0, .int .i64 0, .bool false] 31)) 36 #[.int .i64 0]
  have yc := (Blk.new w 24 #[.int .i64 p, .int .i64 j, .int .i64 t, .int .i64 h, .int .i64 g, .int .i64 q, .int .i64 s, .int .i64 cp, .slice A n k]).alloc (.cells #[.int .u32 a, .int .i64 m, .int .i64 st, .int .i64 me, .int .i64 lo, .int .i64 fa, .int .u32 nx, .int .i64 du, .bool ch] 31)
  replace yc := yc.alloc (.cells #[.int .u32 0, .int .i64 0, .int .i64 0, .int .i64 0, .int .i64 0, .int .i64 0, .int .u32 0, .int .i64 0, .bool false] 31)
  replace yc := yc.alloc (.cells #[.int .i64 0] 36)
  simp only [World.size_alloc] at yr yo ye
  have BB : Below w.heap.size w ((((w.alloc (.cells #[.int .i64 p, .int .i64 j, .int .i64 t, .int .i64 h, .int .i64 g, .int .i64 q, .int .i64 s, .int .i64 cp, .slice A n k] 24)).alloc (.cells #[.int .u32 a, .int .i64 m, .int .i64 st, .int .i64 me, .int .i64 lo, .int .i64 fa, .int .u32 nx, .int .i64 du, .bool ch] 31)).alloc (.cells #[.int .u32 0, .int .i64 0, .int .i64 0, .int .i64 0, .int .i64 0, .int .i64 0, .int .u32 0, .int .i64 0, .bool false] 31)).alloc (.cells #[.int .i64 0] 36)) := balloc (balloc (balloc (balloc (Below.refl _ _) _) _) _) _
  have H1 := Lib.hid (mustBeR_any p j t h g q s cp A n k B l hn a m st me lo fa nx du ch ((((w.alloc (.cells #[.int .i64 p, .int .i64 j, .int .i64 t, .int .i64 h, .int .i64 g, .int .i64 q, .int .i64 s, .int .i64 cp, .slice A n k] 24)).alloc (.cells #[.int .u32 a, .int .i64 m, .int .i64 st, .int .i64 me, .int .i64 lo, .int .i64 fa, .int .u32 nx, .int .i64 du, .bool ch] 31)).alloc (.cells #[.int .u32 0, .int .i64 0, .int .i64 0, .int .i64 0, .int .i64 0, .int .i64 0, .int .u32 0, .int .i64 0, .bool false] 31)).alloc (.cells #[.int .i64 0] 36)) (hr.below (BB.mono hB)) (by simp; omega) hnk hk hl (hw.below BB) ha hx)
  have H2 := Lib.hid (fun W => mustNow_any now W)
  rw [hf, show errC true = 0 from rfl, stpE_0] at H1
  rw [hT] at H2
  simp only [Bool.false_eq_true, if_false, stpE_170] at H2
  have Y := Lib.hid (And.intro yc (And.intro yr (And.intro yo (And.intro ye BB))))
  clear yc yr yo ye BB
  have hmf : ∀ (fn : Fn) (first cap : Array Value) (w : World), (Instr.makeFunc fn first cap).run Tryd.prog w = .ok (.func fn first cap) w := fun _ _ _ _ => rfl
  clear hr hl hw ha hx hf hn hT
  go_enter_defers Tryd.func24, Tryd.ntmps24
  go_wp2_with fail
  refine H1.out.mono ?_
  rintro e w1 ⟨rfl, b1⟩
  go_wp2_with fail
  refine (H2.out _).mono ?_
  rintro e w2 ⟨rfl, b2⟩
  obtain ⟨yc, yr, yo, ye, BB⟩ := Y.out
  replace yc := yc.below b1 yc.lt
  replace yr := yr.below b1 yr.lt
  replace yo := yo.below b1 yo.lt
  replace ye := ye.below b1 ye.lt
  replace BB := bnext BB b1
  clear b1
  replace yc := yc.below b2 yc.lt
  replace yr := yr.below b2 yr.lt
  replace yo := yo.below b2 yo.lt
  replace ye := ye.below b2 ye.lt
  replace BB := bnext BB b2
  clear b2
  go_wp2_with fail
  refine leaves_cons (f := 49) (args := #[.pointer (some ⟨w.heap.size + 1 + 1, 0, none⟩), .pointer (some ⟨w.heap.size + 1 + 1 + 1, 0, none⟩)]) (by simp) (by simp [go_sem]) ?_
  with_reducible refine (expire_pan (w.heap.size + 1 + 1) (w.heap.size + 1 + 1 + 1) (.int .u32 0) (.int .i64 0) (.int .i64 0) (.int .i64 0) (.int .i64 0) (.int .i64 0) (.int .u32 0) (.int .i64 0) (.bool false) (.int .i64 0) 170 [] _ yo ye (by omega) (by omega)).mono ?_
  rintro e u' wz ⟨rfl, rfl, z1, z2, z4⟩
  have m0 := (z1).cell 0
  have m1 := (z1).cell 1
  have m2 := (z1).cell 2
  have m3 := (z1).cell 3
  have m4 := (z1).cell 4
  have m5 := (z1).cell 5
  have m6 := (z1).cell 6
  have m7 := (z1).cell 7
  have m8 := (z1).cell 8
  simp only [List.getElem?_toArray, List.getElem?_cons_zero, List.getElem?_cons_succ] at m0 m1 m2 m3 m4 m5 m6 m7 m8
  have u0 := (z2).cell 0
  simp only [List.getElem?_toArray, List.getElem?_cons_zero, List.getElem?_cons_succ] at u0
  have bz := BB.trans (z4 w.heap.size (by omega) (by omega))
  simp [Leaves, settle, results, Tryd.results24, go_sem, m0, m1, m2, m3, m4, m5, m6, m7, m8, u0]
  exact ⟨rfl, bz⟩

set_option maxHeartbeats 2000000 in
theorem expire_no (p j t h g q s cp : Int) (A : Option Addr) (n k B : Nat) (l : List (Nat × Int)) (hn : l.length = n) (a : Nat) (m st me lo fa : Int) (nx : Nat) (du : Int) (ch : Bool) (now : Int) (w : World) (hr : Rd w B A (plC l)) (hB : B ≤ w.heap.size) (hnk : n ≤ k) (hk : k ≤ 9223372036854775807) (hl : ∀ x ∈ l, x.1 < 4294967296) (hw : CapsAt w) (ha : a < 4294967296) (hx : nx < 4294967296) (hf : (okC p j t h g q s cp l && okR a m st me lo fa nx du ch) = true) (hT : inF 0 4611686018426387904 now = true) (hst : timF st = false) :
    Calls Tryd.prog 24 #[.agg #[.int .i64 p, .int .i64 j, .int .i64 t, .int .i64 h, .int .i64 g, .int .i64 q, .int .i64 s, .int .i64 cp, .slice A n k], .agg #[.int .u32 a, .int .i64 m, .int .i64 st, .int .i64 me, .int .i64 lo, .int .i64 fa, .int .u32 nx, .int .i64 du, .bool ch], .int .i64 now] w (GivR 0 (⟨a, m, st, me, lo, fa, nx, du, ch⟩ : Rt) w) := by
  have yr := Blk.new (w.alloc (.cells #[.int .i64 p, .int .i64 j, .int .i64 t, .int .i64 h, .int .i64 g, .int .i64 q, .int .i64 s, .int .i64 cp, .slice A n k] 24)) 31 #[.int .u32 a, .int .i64 m, .int .i64 st, .int .i64 me, .int .i64 lo, .int .i64 fa, .int .u32 nx, .int .i64 du, .bool ch]
  replace yr := yr.alloc (.cells #[.int .u32 0, .int .i64 0, .int .i64 0, .int .i64 0, .int .i64 0, .int .i64 0, .int .u32 0, .int .i64 0, .bool false] 31)
  replace yr := yr.alloc (.cells #[.int .i64 0] 36)
  have yo := (Blk.new ((w.alloc (.cells #[.int .i64 p, .int .i64 j, .int .i64 t, .int .i64 h, .int .i64 g, .int .i64 q, .int .i64 s, .int .i64 cp, .slice A n k] 24)).alloc (.cells #[.int .u32 a, .int .i64 m, .int .i64 st, .int .i64 me, .int .i64 lo, .int .i64 fa, .int .u32 nx, .int .i64 du, .bool ch] 31)) 31 #[.int .u32 0, .int .i64 0, .int .i64 0, .int .i64 0, .int .i64 0, .int .i64 0, .int .u32 0, .int .i64 0, .bool false]).alloc (.cells #[.int .i64 0] 36)
  have ye := Blk.new (((w.alloc (.cells #[.int .i64 p, .int .i64 j, .int .i64 t, .int .i64 h, .int .i64 g, .int .i64 q, .int .i64 s, .int .i64 cp, .slice A n k] 24)).alloc (.cells #[.int .u32 a, .int .i64 m, .int .i64 st, .int .i64 me, .int .i64 lo, .int .i64 fa, .int .u32 nx, .int .i64 du, .bool ch] 31)).alloc (.cells #[.int .u32 0, .int .i64 0, .int .i64 0, .int .i64 0, .int .i64 0, .int .i64 0, .int .u32 0, .int .i64 0, .bool false] 31)) 36 #[.int .i64 0]
  have yc := (Blk.new w 24 #[.int .i64 p, .int .i64 j, .int .i64 t, .int .i64 h, .int .i64 g, .int .i64 q, .int .i64 s, .int .i64 cp, .slice A n k]).alloc (.cells #[.int .u32 a, .int .i64 m, .int .i64 st, .int .i64 me, .int .i64 lo, .int .i64 fa, .int .u32 nx, .int .i64 du, .bool ch] 31)
  replace yc := yc.alloc (.cells #[.int .u32 0, .int .i64 0, .int .i64 0, .int .i64 0, .int .i64 0, .int .i64 0, .int .u32 0, .int .i64 0, .bool false] 31)
  replace yc := yc.alloc (.cells #[.int .i64 0] 36)
  simp only [World.size_alloc] at yr yo ye
  have BB : Below w.heap.size w ((((w.alloc (.cells #[.int .i64 p, .int .i64 j, .int .i64 t, .int .i64 h, .int .i64 g, .int .i64 q, .int .i64 s, .int .i64 cp, .slice A n k] 24)).alloc (.cells #[.int .u32 a, .int .i64 m, .int .i64 st, .int .i64 me, .int .i64 lo, .int .i64 fa, .int .u32 nx, .int .i64 du, .bool ch] 31)).alloc (.cells #[.int .u32 0, .int .i64 0, .int .i64 0, .int .i64 0, .int .i64 0, .int .i64 0, .int .u32 0, .int .i64 0, .bool false] 31)).alloc (.cells #[.int .i64 0] 36)) := balloc (balloc (balloc (balloc (Below.refl _ _) _) _) _) _
  have H1 := Lib.hid (mustBeR_any p j t h g q s cp A n k B l hn a m st me lo fa nx du ch ((((w.alloc (.cells #[.int .i64 p, .int .i64 j, .int .i64 t, .int .i64 h, .int .i64 g, .int .i64 q, .int .i64 s, .int .i64 cp, .slice A n k] 24)).alloc (.cells #[.int .u32 a, .int .i64 m, .int .i64 st, .int .i64 me, .int .i64 lo, .int .i64 fa, .int .u32 nx, .int .i64 du, .bool ch] 31)).alloc (.cells #[.int .u32 0, .int .i64 0, .int .i64 0, .int .i64 0, .int .i64 0, .int .i64 0, .int .u32 0, .int .i64 0, .bool false] 31)).alloc (.cells #[.int .i64 0] 36)) (hr.below (BB.mono hB)) (by simp; omega) hnk hk hl (hw.below BB) ha hx)
  have H2 := Lib.hid (fun W => mustNow_any now W)
  rw [hf, show errC true = 0 from rfl, stpE_0] at H1
  rw [hT] at H2
  simp only [if_true, stpE_0] at H2
  have hbd := okC_bounds (Bool.and_eq_true_iff.1 hf).1
  have hT2 : 0 ≤ now ∧ now ≤ 4611686018426387904 := of_decide_eq_true hT
  have hwr : IntKind.i64.wrap (now + h) = now + h := IntWalk.i64_in _ ⟨by omega, by omega⟩
  have hwg : IntKind.i64.wrap (now + g) = now + g := IntWalk.i64_in _ ⟨by omega, by omega⟩
  have HI := Lib.hid (fun W => isTimed_any a m st me lo fa nx du ch W)
  have HL := Lib.hid (fun W => lost_any p j t h g q s cp A n k a m st me lo fa nx du ch now W hwr)
  rw [hst] at HI
  have Y := Lib.hid (And.intro yc (And.intro yr (And.intro yo (And.intro ye BB))))
  clear yc yr yo ye BB
  have hmf : ∀ (fn : Fn) (first cap : Array Value) (w : World), (Instr.makeFunc fn first cap).run Tryd.prog w = .ok (.func fn first cap) w := fun _ _ _ _ => rfl
  clear hr hl hw ha hx hf hn hT hbd hT2 hwr
  go_enter_defers Tryd.func24, Tryd.ntmps24
  go_wp2_with fail
  refine H1.out.mono ?_
  rintro e w1 ⟨rfl, b1⟩
  go_wp2_with fail
  refine (H2.out _).mono ?_
  rintro e w2 ⟨rfl, b2⟩
  obtain ⟨yc, yr, yo, ye, BB⟩ := Y.out
  replace yc := yc.below b1 yc.lt
  replace yr := yr.below b1 yr.lt
  replace yo := yo.below b1 yo.lt
  replace ye := ye.below b1 ye.lt
  replace BB := bnext BB b1
  clear b1
  replace yc := yc.below b2 yc.lt
  replace yr := yr.below b2 yr.lt
  replace yo := yo.below b2 yo.lt
  replace ye := ye.below b2 ye.lt
  replace BB := bnext BB b2
  clear b2
  have Y1 := Lib.hid (And.intro yc (And.intro yr (And.intro yo (And.intro ye BB))))
  have c0 := (yr).cell 0
  have c1 := (yr).cell 1
  have c2 := (yr).cell 2
  have c3 := (yr).cell 3
  have c4 := (yr).cell 4
  have c5 := (yr).cell 5
  have c6 := (yr).cell 6
  have c7 := (yr).cell 7
  have c8 := (yr).cell 8
  simp only [List.getElem?_toArray, List.getElem?_cons_zero, List.getElem?_cons_succ] at c0 c1 c2 c3 c4 c5 c6 c7 c8
  clear yc yr yo ye BB
  go_wp2_with fail
  refine (HI.out _).mono ?_
  rintro e w3 ⟨rfl, b3⟩
  obtain ⟨yc, yr, yo, ye, BB⟩ := Y1.out
  have yl := Blk.new w2 78 #[.int .u32 a, .int .i64 m, .int .i64 st, .int .i64 me, .int .i64 lo, .int .i64 fa, .int .u32 nx, .int .i64 du, .bool ch]
  have b2 := balloc (Below.refl w2.heap.size w2) (.cells #[.int .u32 a, .int .i64 m, .int .i64 st, .int .i64 me, .int .i64 lo, .int .i64 fa, .int .u32 nx, .int .i64 du, .bool ch] 78)
  replace yc := yc.below b2 yc.lt
  replace yr := yr.below b2 yr.lt
  replace yo := yo.below b2 yo.lt
  replace ye := ye.below b2 ye.lt
  replace BB := bnext BB b2
  replace yl := yl.below b3 yl.lt
  replace yc := yc.below b3 yc.lt
  replace yr := yr.below b3 yr.lt
  replace yo := yo.below b3 yo.lt
  replace ye := ye.below b3 ye.lt
  replace BB := bnext BB b3
  clear b2 b3
  clear c0 c1 c2 c3 c4 c5 c6 c7 c8
  have c0 := (yr).cell 0
  have c1 := (yr).cell 1
  have c2 := (yr).cell 2
  have c3 := (yr).cell 3
  have c4 := (yr).cell 4
  have c5 := (yr).cell 5
  have c6 := (yr).cell 6
  have c7 := (yr).cell 7
  have c8 := (yr).cell 8
  simp only [List.getElem?_toArray, List.getElem?_cons_zero, List.getElem?_cons_succ] at c0 c1 c2 c3 c4 c5 c6 c7 c8
  clear yc yr yl
  have zo := (put9 yo (.int .u32 a) (.int .i64 m) (.int .i64 st) (.int .i64 me) (.int .i64 lo) (.int .i64 fa) (.int .u32 nx) (.int .i64 du) (.bool ch)).far (p := ⟨w.heap.size + 1 + 1 + 1, 0, none⟩) (by show ¬ w.heap.size + 1 + 1 = w.heap.size + 1 + 1 + 1; omega) (.int .i64 0)
  have ze := (put9_far (b := w.heap.size + 1 + 1) ye (by omega) (.int .u32 a) (.int .i64 m) (.int .i64 st) (.int .i64 me) (.int .i64 lo) (.int .i64 fa) (.int .u32 nx) (.int .i64 du) (.bool ch)).set 0 (.int .i64 0)
  have zb := (put9_below (b := w.heap.size + 1 + 1) BB (by omega) (.int .u32 a) (.int .i64 m) (.int .i64 st) (.int .i64 me) (.int .i64 lo) (.int .i64 fa) (.int .u32 nx) (.int .i64 du) (.bool ch)).setCell (p := ⟨w.heap.size + 1 + 1 + 1, 0, none⟩) (by show w.heap.size ≤ w.heap.size + 1 + 1 + 1; omega) (.int .i64 0)
  simp only [List.setIfInBounds_toArray, List.set_cons_zero] at ze
  have QQ := Lib.hid (And.intro zo (And.intro ze zb))
  have oc0 := (yo).cell 0
  have oc1 := (yo).cell 1
  have oc2 := (yo).cell 2
  have oc3 := (yo).cell 3
  have oc4 := (yo).cell 4
  have oc5 := (yo).cell 5
  have oc6 := (yo).cell 6
  have oc7 := (yo).cell 7
  have oc8 := (yo).cell 8
  simp only [List.getElem?_toArray, List.getElem?_cons_zero, List.getElem?_cons_succ] at oc0 oc1 oc2 oc3 oc4 oc5 oc6 oc7 oc8
  have of0 := yo.frozen 0
  have of1 := yo.frozen 1
  have of2 := yo.frozen 2
  have of3 := yo.frozen 3
  have of4 := yo.frozen 4
  have of5 := yo.frozen 5
  have of6 := yo.frozen 6
  have of7 := yo.frozen 7
  have of8 := yo.frozen 8
  have ec0 := (ye).cell 0
  simp only [List.getElem?_toArray, List.getElem?_cons_zero, List.getElem?_cons_succ] at ec0
  have ef0 := ye.frozen 0
  clear zo ze zb yo ye BB
  go_wp2_with fail
  refine leaves_cons (f := 49) (args := #[.pointer (some ⟨w.heap.size + 1 + 1, 0, none⟩), .pointer (some ⟨w.heap.size + 1 + 1 + 1, 0, none⟩)]) (by simp) (by simp [go_sem]) ?_
  with_reducible refine (expire_idle (w.heap.size + 1 + 1) (w.heap.size + 1 + 1 + 1) _).mono ?_
  rintro e u' wz ⟨rfl, rfl, rfl⟩
  clear oc0 oc1 oc2 oc3 oc4 oc5 oc6 oc7 oc8 of0 of1 of2 of3 of4 of5 of6 of7 of8 ec0 ef0
  generalize ((((((((((w3.setCell ⟨w.heap.size + 1 + 1, 0, none⟩ (.int .u32 a)).setCell ⟨w.heap.size + 1 + 1, 1, none⟩ (.int .i64 m)).setCell ⟨w.heap.size + 1 + 1, 2, none⟩ (.int .i64 st)).setCell ⟨w.heap.size + 1 + 1, 3, none⟩ (.int .i64 me)).setCell ⟨w.heap.size + 1 + 1, 4, none⟩ (.int .i64 lo)).setCell ⟨w.heap.size + 1 + 1, 5, none⟩ (.int .i64 fa)).setCell ⟨w.heap.size + 1 + 1, 6, none⟩ (.int .u32 nx)).setCell ⟨w.heap.size + 1 + 1, 7, none⟩ (.int .i64 du)).setCell ⟨w.heap.size + 1 + 1, 8, none⟩ (.bool ch)).setCell ⟨w.heap.size + 1 + 1 + 1, 0, none⟩ (.int .i64 0)) = wz at *
  have zm := QQ.out.1
  have zu := QQ.out.2.1
  have bz := QQ.out.2.2
  have m0 := (zm).cell 0
  have m1 := (zm).cell 1
  have m2 := (zm).cell 2
  have m3 := (zm).cell 3
  have m4 := (zm).cell 4
  have m5 := (zm).cell 5
  have m6 := (zm).cell 6
  have m7 := (zm).cell 7
  have m8 := (zm).cell 8
  simp only [List.getElem?_toArray, List.getElem?_cons_zero, List.getElem?_cons_succ] at m0 m1 m2 m3 m4 m5 m6 m7 m8
  have u0 := (zu).cell 0
  simp only [List.getElem?_toArray, List.getElem?_cons_zero, List.getElem?_cons_succ] at u0
  simp [Leaves, settle, results, Tryd.results24, go_sem, m0, m1, m2, m3, m4, m5, m6, m7, m8, u0]
  exact ⟨rfl, bz⟩

set_option maxHeartbeats 2000000 in
theorem expire_wait (p j t h g q s cp : Int) (A : Option Addr) (n k B : Nat) (l : List (Nat × Int)) (hn : l.length = n) (a : Nat) (m st me lo fa : Int) (nx : Nat) (du : Int) (ch : Bool) (now : Int) (w : World) (hr : Rd w B A (plC l)) (hB : B ≤ w.heap.size) (hnk : n ≤ k) (hk : k ≤ 9223372036854775807) (hl : ∀ x ∈ l, x.1 < 4294967296) (hw : CapsAt w) (ha : a < 4294967296) (hx : nx < 4294967296) (hf : (okC p j t h g q s cp l && okR a m st me lo fa nx du ch) = true) (hT : inF 0 4611686018426387904 now = true) (hst : timF st = true) (hdu : now < du) :
    Calls Tryd.prog 24 #[.agg #[.int .i64 p, .int .i64 j, .int .i64 t, .int .i64 h, .int .i64 g, .int .i64 q, .int .i64 s, .int .i64 cp, .slice A n k], .agg #[.int .u32 a, .int .i64 m, .int .i64 st, .int .i64 me, .int .i64 lo, .int .i64 fa, .int .u32 nx, .int .i64 du, .bool ch], .int .i64 now] w (GivR 0 (⟨a, m, st, me, lo, fa, nx, du, ch⟩ : Rt) w) := by
  have yr := Blk.new (w.alloc (.cells #[.int .i64 p, .int .i64 j, .int .i64 t, .int .i64 h, .int .i64 g, .int .i64 q, .int .i64 s, .int .i64 cp, .slice A n k] 24)) 31 #[.int .u32 a, .int .i64 m, .int .i64 st, .int .i64 me, .int .i64 lo, .int .i64 fa, .int .u32 nx, .int .i64 du, .bool ch]
  replace yr := yr.alloc (.cells #[.int .u32 0, .int .i64 0, .int .i64 0, .int .i64 0, .int .i64 0, .int .i64 0, .int .u32 0, .int .i64 0, .bool false] 31)
  replace yr := yr.alloc (.cells #[.int .i64 0] 36)
  have yo := (Blk.new ((w.alloc (.cells #[.int .i64 p, .int .i64 j, .int .i64 t, .int .i64 h, .int .i64 g, .int .i64 q, .int .i64 s, .int .i64 cp, .slice A n k] 24)).alloc (.cells #[.int .u32 a, .int .i64 m, .int .i64 st, .int .i64 me, .int .i64 lo, .int .i64 fa, .int .u32 nx, .int .i64 du, .bool ch] 31)) 31 #[.int .u32 0, .int .i64 0, .int .i64 0, .int .i64 0, .int .i64 0, .int .i64 0, .int .u32 0, .int .i64 0, .bool false]).alloc (.cells #[.int .i64 0] 36)
  have ye := Blk.new (((w.alloc (.cells #[.int .i64 p, .int .i64 j, .int .i64 t, .int .i64 h, .int .i64 g, .int .i64 q, .int .i64 s, .int .i64 cp, .slice A n k] 24)).alloc (.cells #[.int .u32 a, .int .i64 m, .int .i64 st, .int .i64 me, .int .i64 lo, .int .i64 fa, .int .u32 nx, .int .i64 du, .bool ch] 31)).alloc (.cells #[.int .u32 0, .int .i64 0, .int .i64 0, .int .i64 0, .int .i64 0, .int .i64 0, .int .u32 0, .int .i64 0, .bool false] 31)) 36 #[.int .i64 0]
  have yc := (Blk.new w 24 #[.int .i64 p, .int .i64 j, .int .i64 t, .int .i64 h, .int .i64 g, .int .i64 q, .int .i64 s, .int .i64 cp, .slice A n k]).alloc (.cells #[.int .u32 a, .int .i64 m, .int .i64 st, .int .i64 me, .int .i64 lo, .int .i64 fa, .int .u32 nx, .int .i64 du, .bool ch] 31)
  replace yc := yc.alloc (.cells #[.int .u32 0, .int .i64 0, .int .i64 0, .int .i64 0, .int .i64 0, .int .i64 0, .int .u32 0, .int .i64 0, .bool false] 31)
  replace yc := yc.alloc (.cells #[.int .i64 0] 36)
  simp only [World.size_alloc] at yr yo ye
  have BB : Below w.heap.size w ((((w.alloc (.cells #[.int .i64 p, .int .i64 j, .int .i64 t, .int .i64 h, .int .i64 g, .int .i64 q, .int .i64 s, .int .i64 cp, .slice A n k] 24)).alloc (.cells #[.int .u32 a, .int .i64 m, .int .i64 st, .int .i64 me, .int .i64 lo, .int .i64 fa, .int .u32 nx, .int .i64 du, .bool ch] 31)).alloc (.cells #[.int .u32 0, .int .i64 0, .int .i64 0, .int .i64 0, .int .i64 0, .int .i64 0, .int .u32 0, .int .i64 0, .bool false] 31)).alloc (.cells #[.int .i64 0] 36)) := balloc (balloc (balloc (balloc (Below.refl _ _) _) _) _) _
  have H1 := Lib.hid (mustBeR_any p j t h g q s cp A n k B l hn a m st me lo fa nx du ch ((((w.alloc (.cells #[.int .i64 p, .int .i64 j, .int .i64 t, .int .i64 h, .int .i64 g, .int .i64 q, .int .i64 s, .int .i64 cp, .slice A n k] 24)).alloc (.cells #[.int .u32 a, .int .i64 m, .int .i64 st, .int .i64 me, .int .i64 lo, .int .i64 fa, .int .u32 nx, .int .i64 du, .bool ch] 31)).alloc (.cells #[.int .u32 0, .int .i64 0, .int .i64 0, .int .i64 0, .int .i64 0, .int .i64 0, .int .u32 0, .int .i64 0, .bool false] 31)).alloc (.cells #[.int .i64 0] 36)) (hr.below (BB.mono hB)) (by simp; omega) hnk hk hl (hw.below BB) ha hx)
  have H2 := Lib.hid (fun W => mustNow_any now W)
  rw [hf, show errC true = 0 from rfl, stpE_0] at H1
  rw [hT] at H2
  simp only [if_true, stpE_0] at H2
  have hbd := okC_bounds (Bool.and_eq_true_iff.1 hf).1
  have hT2 : 0 ≤ now ∧ now ≤ 4611686018426387904 := of_decide_eq_true hT
  have hwr : IntKind.i64.wrap (now + h) = now + h := IntWalk.i64_in _ ⟨by omega, by omega⟩
  have hwg : IntKind.i64.wrap (now + g) = now + g := IntWalk.i64_in _ ⟨by omega, by omega⟩
  have HI := Lib.hid (fun W => isTimed_any a m st me lo fa nx du ch W)
  have HL := Lib.hid (fun W => lost_any p j t h g q s cp A n k a m st me lo fa nx du ch now W hwr)
  rw [hst] at HI
  have hd1 : decide (now < du) = true := by simpa using hdu
  clear hdu
  have Y := Lib.hid (And.intro yc (And.intro yr (And.intro yo (And.intro ye BB))))
  clear yc yr yo ye BB
  have hmf : ∀ (fn : Fn) (first cap : Array Value) (w : World), (Instr.makeFunc fn first cap).run Tryd.prog w = .ok (.func fn first cap) w := fun _ _ _ _ => rfl
  clear hr hl hw ha hx hf hn hT hbd hT2 hwr
  go_enter_defers Tryd.func24, Tryd.ntmps24
  go_wp2_with fail
  refine H1.out.mono ?_
  rintro e w1 ⟨rfl, b1⟩
  go_wp2_with fail
  refine (H2.out _).mono ?_
  rintro e w2 ⟨rfl, b2⟩
  obtain ⟨yc, yr, yo, ye, BB⟩ := Y.out
  replace yc := yc.below b1 yc.lt
  replace yr := yr.below b1 yr.lt
  replace yo := yo.below b1 yo.lt
  replace ye := ye.below b1 ye.lt
  replace BB := bnext BB b1
  clear b1
  replace yc := yc.below b2 yc.lt
  replace yr := yr.below b2 yr.lt
  replace yo := yo.below b2 yo.lt
  replace ye := ye.below b2 ye.lt
  replace BB := bnext BB b2
  clear b2
  have Y1 := Lib.hid (And.intro yc (And.intro yr (And.intro yo (And.intro ye BB))))
  have c0 := (yr).cell 0
  have c1 := (yr).cell 1
  have c2 := (yr).cell 2
  have c3 := (yr).cell 3
  have c4 := (yr).cell 4
  have c5 := (yr).cell 5
  have c6 := (yr).cell 6
  have c7 := (yr).cell 7
  have c8 := (yr).cell 8
  simp only [List.getElem?_toArray, List.getElem?_cons_zero, List.getElem?_cons_succ] at c0 c1 c2 c3 c4 c5 c6 c7 c8
  clear yc yr yo ye BB
  go_wp2_with fail
  refine (HI.out _).mono ?_
  rintro e w3 ⟨rfl, b3⟩
  obtain ⟨yc, yr, yo, ye, BB⟩ := Y1.out
  have yl := Blk.new w2 78 #[.int .u32 a, .int .i64 m, .int .i64 st, .int .i64 me, .int .i64 lo, .int .i64 fa, .int .u32 nx, .int .i64 du, .bool ch]
  have b2 := balloc (Below.refl w2.heap.size w2) (.cells #[.int .u32 a, .int .i64 m, .int .i64 st, .int .i64 me, .int .i64 lo, .int .i64 fa, .int .u32 nx, .int .i64 du, .bool ch] 78)
  replace yc := yc.below b2 yc.lt
  replace yr := yr.below b2 yr.lt
  replace yo := yo.below b2 yo.lt
  replace ye := ye.below b2 ye.lt
  replace BB := bnext BB b2
  replace yl := yl.below b3 yl.lt
  replace yc := yc.below b3 yc.lt
  replace yr := yr.below b3 yr.lt
  replace yo := yo.below b3 yo.lt
  replace ye := ye.below b3 ye.lt
  replace BB := bnext BB b3
  clear b2 b3
  clear c0 c1 c2 c3 c4 c5 c6 c7 c8
  have c0 := (yr).cell 0
  have c1 := (yr).cell 1
  have c2 := (yr).cell 2
  have c3 := (yr).cell 3
  have c4 := (yr).cell 4
  have c5 := (yr).cell 5
  have c6 := (yr).cell 6
  have c7 := (yr).cell 7
  have c8 := (yr).cell 8
  simp only [List.getElem?_toArray, List.getElem?_cons_zero, List.getElem?_cons_succ] at c0 c1 c2 c3 c4 c5 c6 c7 c8
  have k0 := (yl).cell 0
  have k1 := (yl).cell 1
  have k2 := (yl).cell 2
  have k3 := (yl).cell 3
  have k4 := (yl).cell 4
  have k5 := (yl).cell 5
  have k6 := (yl).cell 6
  have k7 := (yl).cell 7
  have k8 := (yl).cell 8
  simp only [List.getElem?_toArray, List.getElem?_cons_zero, List.getElem?_cons_succ] at k0 k1 k2 k3 k4 k5 k6 k7 k8
  clear yc yr yl
  have zo := (put9 yo (.int .u32 a) (.int .i64 m) (.int .i64 st) (.int .i64 me) (.int .i64 lo) (.int .i64 fa) (.int .u32 nx) (.int .i64 du) (.bool ch)).far (p := ⟨w.heap.size + 1 + 1 + 1, 0, none⟩) (by show ¬ w.heap.size + 1 + 1 = w.heap.size + 1 + 1 + 1; omega) (.int .i64 0)
  have ze := (put9_far (b := w.heap.size + 1 + 1) ye (by omega) (.int .u32 a) (.int .i64 m) (.int .i64 st) (.int .i64 me) (.int .i64 lo) (.int .i64 fa) (.int .u32 nx) (.int .i64 du) (.bool ch)).set 0 (.int .i64 0)
  have zb := (put9_below (b := w.heap.size + 1 + 1) BB (by omega) (.int .u32 a) (.int .i64 m) (.int .i64 st) (.int .i64 me) (.int .i64 lo) (.int .i64 fa) (.int .u32 nx) (.int .i64 du) (.bool ch)).setCell (p := ⟨w.heap.size + 1 + 1 + 1, 0, none⟩) (by show w.heap.size ≤ w.heap.size + 1 + 1 + 1; omega) (.int .i64 0)
  simp only [List.setIfInBounds_toArray, List.set_cons_zero] at ze
  have QQ := Lib.hid (And.intro zo (And.intro ze zb))
  have oc0 := (yo).cell 0
  have oc1 := (yo).cell 1
  have oc2 := (yo).cell 2
  have oc3 := (yo).cell 3
  have oc4 := (yo).cell 4
  have oc5 := (yo).cell 5
  have oc6 := (yo).cell 6
  have oc7 := (yo).cell 7
  have oc8 := (yo).cell 8
  simp only [List.getElem?_toArray, List.getElem?_cons_zero, List.getElem?_cons_succ] at oc0 oc1 oc2 oc3 oc4 oc5 oc6 oc7 oc8
  have of0 := yo.frozen 0
  have of1 := yo.frozen 1
  have of2 := yo.frozen 2
  have of3 := yo.frozen 3
  have of4 := yo.frozen 4
  have of5 := yo.frozen 5
  have of6 := yo.frozen 6
  have of7 := yo.frozen 7
  have of8 := yo.frozen 8
  have ec0 := (ye).cell 0
  simp only [List.getElem?_toArray, List.getElem?_cons_zero, List.getElem?_cons_succ] at ec0
  have ef0 := ye.frozen 0
  clear zo ze zb yo ye BB
  go_wp2_with fail
  refine leaves_cons (f := 49) (args := #[.pointer (some ⟨w.heap.size + 1 + 1, 0, none⟩), .pointer (some ⟨w.heap.size + 1 + 1 + 1, 0, none⟩)]) (by simp) (by simp [go_sem]) ?_
  with_reducible refine (expire_idle (w.heap.size + 1 + 1) (w.heap.size + 1 + 1 + 1) _).mono ?_
  rintro e u' wz ⟨rfl, rfl, rfl⟩
  clear oc0 oc1 oc2 oc3 oc4 oc5 oc6 oc7 oc8 of0 of1 of2 of3 of4 of5 of6 of7 of8 ec0 ef0
  generalize ((((((((((w3.setCell ⟨w.heap.size + 1 + 1, 0, none⟩ (.int .u32 a)).setCell ⟨w.heap.size + 1 + 1, 1, none⟩ (.int .i64 m)).setCell ⟨w.heap.size + 1 + 1, 2, none⟩ (.int .i64 st)).setCell ⟨w.heap.size + 1 + 1, 3, none⟩ (.int .i64 me)).setCell ⟨w.heap.size + 1 + 1, 4, none⟩ (.int .i64 lo)).setCell ⟨w.heap.size + 1 + 1, 5, none⟩ (.int .i64 fa)).setCell ⟨w.heap.size + 1 + 1, 6, none⟩ (.int .u32 nx)).setCell ⟨w.heap.size + 1 + 1, 7, none⟩ (.int .i64 du)).setCell ⟨w.heap.size + 1 + 1, 8, none⟩ (.bool ch)).setCell ⟨w.heap.size + 1 + 1 + 1, 0, none⟩ (.int .i64 0)) = wz at *
  have zm := QQ.out.1
  have zu := QQ.out.2.1
  have bz := QQ.out.2.2
  have m0 := (zm).cell 0
  have m1 := (zm).cell 1
  have m2 := (zm).cell 2
  have m3 := (zm).cell 3
  have m4 := (zm).cell 4
  have m5 := (zm).cell 5
  have m6 := (zm).cell 6
  have m7 := (zm).cell 7
  have m8 := (zm).cell 8
  simp only [List.getElem?_toArray, List.getElem?_cons_zero, List.getElem?_cons_succ] at m0 m1 m2 m3 m4 m5 m6 m7 m8
  have u0 := (zu).cell 0
  simp only [List.getElem?_toArray, List.getElem?_cons_zero, List.getElem?_cons_succ] at u0
  simp [Leaves, settle, results, Tryd.results24, go_sem, m0, m1, m2, m3, m4, m5, m6, m7, m8, u0]
  exact ⟨rfl, bz⟩

set_option maxHeartbeats 2000000 in
theorem expire_two (p j t h g q s cp : Int) (A : Option Addr) (n k B : Nat) (l : List (Nat × Int)) (hn : l.length = n) (a : Nat) (m me lo fa : Int) (nx : Nat) (du : Int) (ch : Bool) (now : Int) (w : World) (hr : Rd w B A (plC l)) (hB : B ≤ w.heap.size) (hnk : n ≤ k) (hk : k ≤ 9223372036854775807) (hl : ∀ x ∈ l, x.1 < 4294967296) (hw : CapsAt w) (ha : a < 4294967296) (hx : nx < 4294967296) (hf : (okC p j t h g q s cp l && okR a m 2 me lo fa nx du ch) = true) (hT : inF 0 4611686018426387904 now = true) (hdu : ¬ now < du) :
    Calls Tryd.prog 24 #[.agg #[.int .i64 p, .int .i64 j, .int .i64 t, .int .i64 h, .int .i64 g, .int .i64 q, .int .i64 s, .int .i64 cp, .slice A n k], .agg #[.int .u32 a, .int .i64 m, .int .i64 2, .int .i64 me, .int .i64 lo, .int .i64 fa, .int .u32 nx, .int .i64 du, .bool ch], .int .i64 now] w (GivR 0 (lostR h ⟨a, m, 2, me, lo, fa, nx, du, ch⟩ now) w) := by
  have yr := Blk.new (w.alloc (.cells #[.int .i64 p, .int .i64 j, .int .i64 t, .int .i64 h, .int .i64 g, .int .i64 q, .int .i64 s, .int .i64 cp, .slice A n k] 24)) 31 #[.int .u32 a, .int .i64 m, .int .i64 2, .int .i64 me, .int .i64 lo, .int .i64 fa, .int .u32 nx, .int .i64 du, .bool ch]
  replace yr := yr.alloc (.cells #[.int .u32 0, .int .i64 0, .int .i64 0, .int .i64 0, .int .i64 0, .int .i64 0, .int .u32 0, .int .i64 0, .bool false] 31)
  replace yr := yr.alloc (.cells #[.int .i64 0] 36)
  have yo := (Blk.new ((w.alloc (.cells #[.int .i64 p, .int .i64 j, .int .i64 t, .int .i64 h, .int .i64 g, .int .i64 q, .int .i64 s, .int .i64 cp, .slice A n k] 24)).alloc (.cells #[.int .u32 a, .int .i64 m, .int .i64 2, .int .i64 me, .int .i64 lo, .int .i64 fa, .int .u32 nx, .int .i64 du, .bool ch] 31)) 31 #[.int .u32 0, .int .i64 0, .int .i64 0, .int .i64 0, .int .i64 0, .int .i64 0, .int .u32 0, .int .i64 0, .bool false]).alloc (.cells #[.int .i64 0] 36)
  have ye := Blk.new (((w.alloc (.cells #[.int .i64 p, .int .i64 j, .int .i64 t, .int .i64 h, .int .i64 g, .int .i64 q, .int .i64 s, .int .i64 cp, .slice A n k] 24)).alloc (.cells #[.int .u32 a, .int .i64 m, .int .i64 2, .int .i64 me, .int .i64 lo, .int .i64 fa, .int .u32 nx, .int .i64 du, .bool ch] 31)).alloc (.cells #[.int .u32 0, .int .i64 0, .int .i64 0, .int .i64 0, .int .i64 0, .int .i64 0, .int .u32 0, .int .i64 0, .bool false] 31)) 36 #[.int .i64 0]
  have yc := (Blk.new w 24 #[.int .i64 p, .int .i64 j, .int .i64 t, .int .i64 h, .int .i64 g, .int .i64 q, .int .i64 s, .int .i64 cp, .slice A n k]).alloc (.cells #[.int .u32 a, .int .i64 m, .int .i64 2, .int .i64 me, .int .i64 lo, .int .i64 fa, .int .u32 nx, .int .i64 du, .bool ch] 31)
  replace yc := yc.alloc (.cells #[.int .u32 0, .int .i64 0, .int .i64 0, .int .i64 0, .int .i64 0, .int .i64 0, .int .u32 0, .int .i64 0, .bool false] 31)
  replace yc := yc.alloc (.cells #[.int .i64 0] 36)
  simp only [World.size_alloc] at yr yo ye
  have BB : Below w.heap.size w ((((w.alloc (.cells #[.int .i64 p, .int .i64 j, .int .i64 t, .int .i64 h, .int .i64 g, .int .i64 q, .int .i64 s, .int .i64 cp, .slice A n k] 24)).alloc (.cells #[.int .u32 a, .int .i64 m, .int .i64 2, .int .i64 me, .int .i64 lo, .int .i64 fa, .int .u32 nx, .int .i64 du, .bool ch] 31)).alloc (.cells #[.int .u32 0, .int .i64 0, .int .i64 0, .int .i64 0, .int .i64 0, .int .i64 0, .int .u32 0, .int .i64 0, .bool false] 31)).alloc (.cells #[.int .i64 0] 36)) := balloc (balloc (balloc (balloc (Below.refl _ _) _) _) _) _
  have H1 := Lib.hid (mustBeR_any p j t h g q s cp A n k B l hn a m 2 me lo fa nx du ch ((((w.alloc (.cells #[.int .i64 p, .int .i64 j, .int .i64 t, .int .i64 h, .int .i64 g, .int .i64 q, .int .i64 s, .int .i64 cp, .slice A n k] 24)).alloc (.cells #[.int .u32 a, .int .i64 m, .int .i64 2, .int .i64 me, .int .i64 lo, .int .i64 fa, .int .u32 nx, .int .i64 du, .bool ch] 31)).alloc (.cells #[.int .u32 0, .int .i64 0, .int .i64 0, .int .i64 0, .int .i64 0, .int .i64 0, .int .u32 0, .int .i64 0, .bool false] 31)).alloc (.cells #[.int .i64 0] 36)) (hr.below (BB.mono hB)) (by simp; omega) hnk hk hl (hw.below BB) ha hx)
  have H2 := Lib.hid (fun W => mustNow_any now W)
  rw [hf, show errC true = 0 from rfl, stpE_0] at H1
  rw [hT] at H2
  simp only [if_true, stpE_0] at H2
  have hbd := okC_bounds (Bool.and_eq_true_iff.1 hf).1
  have hT2 : 0 ≤ now ∧ now ≤ 4611686018426387904 := of_decide_eq_true hT
  have hwr : IntKind.i64.wrap (now + h) = now + h := IntWalk.i64_in _ ⟨by omega, by omega⟩
  have hwg : IntKind.i64.wrap (now + g) = now + g := IntWalk.i64_in _ ⟨by omega, by omega⟩
  have HI := Lib.hid (fun W => isTimed_any a m 2 me lo fa nx du ch W)
  have HL := Lib.hid (fun W => lost_any p j t h g q s cp A n k a m 2 me lo fa nx du ch now W hwr)
  rw [show timF 2 = true from rfl] at HI
  have hd1 : decide (now < du) = false := by simpa using hdu
  clear hdu
  have Y := Lib.hid (And.intro yc (And.intro yr (And.intro yo (And.intro ye BB))))
  clear yc yr yo ye BB
  have hmf : ∀ (fn : Fn) (first cap : Array Value) (w : World), (Instr.makeFunc fn first cap).run Tryd.prog w = .ok (.func fn first cap) w := fun _ _ _ _ => rfl
  clear hr hl hw ha hx hf hn hT hbd hT2 hwr
  go_enter_defers Tryd.func24, Tryd.ntmps24
  go_wp2_with fail
  refine H1.out.mono ?_
  rintro e w1 ⟨rfl, b1⟩
  go_wp2_with fail
  refine (H2.out _).mono ?_
  rintro e w2 ⟨rfl, b2⟩
  obtain ⟨yc, yr, yo, ye, BB⟩ := Y.out
  replace yc := yc.below b1 yc.lt
  replace yr := yr.below b1 yr.lt
  replace yo := yo.below b1 yo.lt
  replace ye := ye.below b1 ye.lt
  replace BB := bnext BB b1
  clear b1
  replace yc := yc.below b2 yc.lt
  replace yr := yr.below b2 yr.lt
  replace yo := yo.below b2 yo.lt
  replace ye := ye.below b2 ye.lt
  replace BB := bnext BB b2
  clear b2
  have Y1 := Lib.hid (And.intro yc (And.intro yr (And.intro yo (And.intro ye BB))))
  have c0 := (yr).cell 0
  have c1 := (yr).cell 1
  have c2 := (yr).cell 2
  have c3 := (yr).cell 3
  have c4 := (yr).cell 4
  have c5 := (yr).cell 5
  have c6 := (yr).cell 6
  have c7 := (yr).cell 7
  have c8 := (yr).cell 8
  simp only [List.getElem?_toArray, List.getElem?_cons_zero, List.getElem?_cons_succ] at c0 c1 c2 c3 c4 c5 c6 c7 c8
  clear yc yr yo ye BB
  go_wp2_with fail
  refine (HI.out _).mono ?_
  rintro e w3 ⟨rfl, b3⟩
  obtain ⟨yc, yr, yo, ye, BB⟩ := Y1.out
  have yl := Blk.new w2 78 #[.int .u32 a, .int .i64 m, .int .i64 2, .int .i64 me, .int .i64 lo, .int .i64 fa, .int .u32 nx, .int .i64 du, .bool ch]
  have b2 := balloc (Below.refl w2.heap.size w2) (.cells #[.int .u32 a, .int .i64 m, .int .i64 2, .int .i64 me, .int .i64 lo, .int .i64 fa, .int .u32 nx, .int .i64 du, .bool ch] 78)
  replace yc := yc.below b2 yc.lt
  replace yr := yr.below b2 yr.lt
  replace yo := yo.below b2 yo.lt
  replace ye := ye.below b2 ye.lt
  replace BB := bnext BB b2
  replace yl := yl.below b3 yl.lt
  replace yc := yc.below b3 yc.lt
  replace yr := yr.below b3 yr.lt
  replace yo := yo.below b3 yo.lt
  replace ye := ye.below b3 ye.lt
  replace BB := bnext BB b3
  clear b2 b3
  clear c0 c1 c2 c3 c4 c5 c6 c7 c8
  have z0 := (yl).cell 0
  have z1 := (yl).cell 1
  have z2 := (yl).cell 2
  have z3 := (yl).cell 3
  have z4 := (yl).cell 4
  have z5 := (yl).cell 5
  have z6 := (yl).cell 6
  have z7 := (yl).cell 7
  have z8 := (yl).cell 8
  simp only [List.getElem?_toArray, List.getElem?_cons_zero, List.getElem?_cons_succ] at z0 z1 z2 z3 z4 z5 z6 z7 z8
  clear yl
  have Y2 := Lib.hid (And.intro yr (And.intro yo (And.intro ye BB)))
  have c0 := (yr).cell 0
  have c1 := (yr).cell 1
  have c2 := (yr).cell 2
  have c3 := (yr).cell 3
  have c4 := (yr).cell 4
  have c5 := (yr).cell 5
  have c6 := (yr).cell 6
  have c7 := (yr).cell 7
  have c8 := (yr).cell 8
  simp only [List.getElem?_toArray, List.getElem?_cons_zero, List.getElem?_cons_succ] at c0 c1 c2 c3 c4 c5 c6 c7 c8
  have k0 := (yc).cell 0
  have k1 := (yc).cell 1
  have k2 := (yc).cell 2
  have k3 := (yc).cell 3
  have k4 := (yc).cell 4
  have k5 := (yc).cell 5
  have k6 := (yc).cell 6
  have k7 := (yc).cell 7
  have k8 := (yc).cell 8
  simp only [List.getElem?_toArray, List.getElem?_cons_zero, List.getElem?_cons_succ] at k0 k1 k2 k3 k4 k5 k6 k7 k8
  clear yc yr yo ye BB
  go_wp2_with fail
  refine (HL.out _).mono ?_
  rintro e w4 ⟨⟨⟨a1, m1, st1, me1, lo1, fa1, nx1, du1, ch1⟩, hr1, rfl⟩, b4⟩
  obtain ⟨yr, yo, ye, BB⟩ := Y2.out
  replace yr := yr.below b4 yr.lt
  replace yo := yo.below b4 yo.lt
  replace ye := ye.below b4 ye.lt
  replace BB := bnext BB b4
  clear c0 c1 c2 c3 c4 c5 c6 c7 c8 k0 k1 k2 k3 k4 k5 k6 k7 k8
  clear b4
  clear z0 z1 z2 z3 z4 z5 z6 z7 z8
  have HR := Lib.hid hr1
  clear hr1
  have hne1 : ¬ w.heap.size + 1 + 1 = w.heap.size + 1 := by omega
  have hne2 : ¬ w.heap.size + 1 + 1 + 1 = w.heap.size + 1 := by omega
  have zr := put9 yr (.int .u32 a1) (.int .i64 m1) (.int .i64 st1) (.int .i64 me1) (.int .i64 lo1) (.int .i64 fa1) (.int .u32 nx1) (.int .i64 du1) (.bool ch1)
  have zo := put9_far (b := w.heap.size + 1) yo hne1 (.int .u32 a1) (.int .i64 m1) (.int .i64 st1) (.int .i64 me1) (.int .i64 lo1) (.int .i64 fa1) (.int .u32 nx1) (.int .i64 du1) (.bool ch1)
  have ze := put9_far (b := w.heap.size + 1) ye hne2 (.int .u32 a1) (.int .i64 m1) (.int .i64 st1) (.int .i64 me1) (.int .i64 lo1) (.int .i64 fa1) (.int .u32 nx1) (.int .i64 du1) (.bool ch1)
  have zb := put9_below (b := w.heap.size + 1) BB (by omega) (.int .u32 a1) (.int .i64 m1) (.int .i64 st1) (.int .i64 me1) (.int .i64 lo1) (.int .i64 fa1) (.int .u32 nx1) (.int .i64 du1) (.bool ch1)
  have Q5 := Lib.hid (And.intro zr (And.intro zo (And.intro ze zb)))
  have c0 := (yr).cell 0
  have c1 := (yr).cell 1
  have c2 := (yr).cell 2
  have c3 := (yr).cell 3
  have c4 := (yr).cell 4
  have c5 := (yr).cell 5
  have c6 := (yr).cell 6
  have c7 := (yr).cell 7
  have c8 := (yr).cell 8
  simp only [List.getElem?_toArray, List.getElem?_cons_zero, List.getElem?_cons_succ] at c0 c1 c2 c3 c4 c5 c6 c7 c8
  have f0 := yr.frozen 0
  have f1 := yr.frozen 1
  have f2 := yr.frozen 2
  have f3 := yr.frozen 3
  have f4 := yr.frozen 4
  have f5 := yr.frozen 5
  have f6 := yr.frozen 6
  have f7 := yr.frozen 7
  have f8 := yr.frozen 8
  clear yr yo ye BB zr zo ze zb
  go_upto_region 14 with fail
  generalize (((((((((w4.setCell ⟨w.heap.size + 1, 0, none⟩ (.int .u32 a1)).setCell ⟨w.heap.size + 1, 1, none⟩ (.int .i64 m1)).setCell ⟨w.heap.size + 1, 2, none⟩ (.int .i64 st1)).setCell ⟨w.heap.size + 1, 3, none⟩ (.int .i64 me1)).setCell ⟨w.heap.size + 1, 4, none⟩ (.int .i64 lo1)).setCell ⟨w.heap.size + 1, 5, none⟩ (.int .i64 fa1)).setCell ⟨w.heap.size + 1, 6, none⟩ (.int .u32 nx1)).setCell ⟨w.heap.size + 1, 7, none⟩ (.int .i64 du1)).setCell ⟨w.heap.size + 1, 8, none⟩ (.bool ch1)) = w5 at *
  clear c0 c1 c2 c3 c4 c5 c6 c7 c8 f0 f1 f2 f3 f4 f5 f6 f7 f8
  obtain ⟨yr, yo, ye, BB⟩ := Q5.out
  have c0 := (yr).cell 0
  have c1 := (yr).cell 1
  have c2 := (yr).cell 2
  have c3 := (yr).cell 3
  have c4 := (yr).cell 4
  have c5 := (yr).cell 5
  have c6 := (yr).cell 6
  have c7 := (yr).cell 7
  have c8 := (yr).cell 8
  simp only [List.getElem?_toArray, List.getElem?_cons_zero, List.getElem?_cons_succ] at c0 c1 c2 c3 c4 c5 c6 c7 c8
  clear yr
  have zo := (put9 yo (.int .u32 a1) (.int .i64 m1) (.int .i64 st1) (.int .i64 me1) (.int .i64 lo1) (.int .i64 fa1) (.int .u32 nx1) (.int .i64 du1) (.bool ch1)).far (p := ⟨w.heap.size + 1 + 1 + 1, 0, none⟩) (by show ¬ w.heap.size + 1 + 1 = w.heap.size + 1 + 1 + 1; omega) (.int .i64 0)
  have ze := (put9_far (b := w.heap.size + 1 + 1) ye (by omega) (.int .u32 a1) (.int .i64 m1) (.int .i64 st1) (.int .i64 me1) (.int .i64 lo1) (.int .i64 fa1) (.int .u32 nx1) (.int .i64 du1) (.bool ch1)).set 0 (.int .i64 0)
  have zb := (put9_below (b := w.heap.size + 1 + 1) BB (by omega) (.int .u32 a1) (.int .i64 m1) (.int .i64 st1) (.int .i64 me1) (.int .i64 lo1) (.int .i64 fa1) (.int .u32 nx1) (.int .i64 du1) (.bool ch1)).setCell (p := ⟨w.heap.size + 1 + 1 + 1, 0, none⟩) (by show w.heap.size ≤ w.heap.size + 1 + 1 + 1; omega) (.int .i64 0)
  simp only [List.setIfInBounds_toArray, List.set_cons_zero] at ze
  have QQ := Lib.hid (And.intro zo (And.intro ze zb))
  have oc0 := (yo).cell 0
  have oc1 := (yo).cell 1
  have oc2 := (yo).cell 2
  have oc3 := (yo).cell 3
  have oc4 := (yo).cell 4
  have oc5 := (yo).cell 5
  have oc6 := (yo).cell 6
  have oc7 := (yo).cell 7
  have oc8 := (yo).cell 8
  simp only [List.getElem?_toArray, List.getElem?_cons_zero, List.getElem?_cons_succ] at oc0 oc1 oc2 oc3 oc4 oc5 oc6 oc7 oc8
  have of0 := yo.frozen 0
  have of1 := yo.frozen 1
  have of2 := yo.frozen 2
  have of3 := yo.frozen 3
  have of4 := yo.frozen 4
  have of5 := yo.frozen 5
  have of6 := yo.frozen 6
  have of7 := yo.frozen 7
  have of8 := yo.frozen 8
  have ec0 := (ye).cell 0
  simp only [List.getElem?_toArray, List.getElem?_cons_zero, List.getElem?_cons_succ] at ec0
  have ef0 := ye.frozen 0
  clear zo ze zb yo ye BB
  go_wp2_with fail
  refine leaves_cons (f := 49) (args := #[.pointer (some ⟨w.heap.size + 1 + 1, 0, none⟩), .pointer (some ⟨w.heap.size + 1 + 1 + 1, 0, none⟩)]) (by simp) (by simp [go_sem]) ?_
  with_reducible refine (expire_idle (w.heap.size + 1 + 1) (w.heap.size + 1 + 1 + 1) _).mono ?_
  rintro e u' wz ⟨rfl, rfl, rfl⟩
  clear oc0 oc1 oc2 oc3 oc4 oc5 oc6 oc7 oc8 of0 of1 of2 of3 of4 of5 of6 of7 of8 ec0 ef0
  generalize ((((((((((w5.setCell ⟨w.heap.size + 1 + 1, 0, none⟩ (.int .u32 a1)).setCell ⟨w.heap.size + 1 + 1, 1, none⟩ (.int .i64 m1)).setCell ⟨w.heap.size + 1 + 1, 2, none⟩ (.int .i64 st1)).setCell ⟨w.heap.size + 1 + 1, 3, none⟩ (.int .i64 me1)).setCell ⟨w.heap.size + 1 + 1, 4, none⟩ (.int .i64 lo1)).setCell ⟨w.heap.size + 1 + 1, 5, none⟩ (.int .i64 fa1)).setCell ⟨w.heap.size + 1 + 1, 6, none⟩ (.int .u32 nx1)).setCell ⟨w.heap.size + 1 + 1, 7, none⟩ (.int .i64 du1)).setCell ⟨w.heap.size + 1 + 1, 8, none⟩ (.bool ch1)).setCell ⟨w.heap.size + 1 + 1 + 1, 0, none⟩ (.int .i64 0)) = wz at *
  have zm := QQ.out.1
  have zu := QQ.out.2.1
  have bz := QQ.out.2.2
  have m0 := (zm).cell 0
  have m1 := (zm).cell 1
  have m2 := (zm).cell 2
  have m3 := (zm).cell 3
  have m4 := (zm).cell 4
  have m5 := (zm).cell 5
  have m6 := (zm).cell 6
  have m7 := (zm).cell 7
  have m8 := (zm).cell 8
  simp only [List.getElem?_toArray, List.getElem?_cons_zero, List.getElem?_cons_succ] at m0 m1 m2 m3 m4 m5 m6 m7 m8
  have u0 := (zu).cell 0
  simp only [List.getElem?_toArray, List.getElem?_cons_zero, List.getElem?_cons_succ] at u0
  simp [Leaves, settle, results, Tryd.results24, go_sem, m0, m1, m2, m3, m4, m5, m6, m7, m8, u0]
  rw [← HR.out]
  exact ⟨rfl, bz⟩

set_option maxHeartbeats 2000000 in
theorem expire_three (p j t h g q s cp : Int) (A : Option Addr) (n k B : Nat) (l : List (Nat × Int)) (hn : l.length = n) (a : Nat) (m me lo fa : Int) (nx : Nat) (du : Int) (ch : Bool) (now : Int) (w : World) (hr : Rd w B A (plC l)) (hB : B ≤ w.heap.size) (hnk : n ≤ k) (hk : k ≤ 9223372036854775807) (hl : ∀ x ∈ l, x.1 < 4294967296) (hw : CapsAt w) (ha : a < 4294967296) (hx : nx < 4294967296) (hf : (okC p j t h g q s cp l && okR a m 3 me lo fa nx du ch) = true) (hT : inF 0 4611686018426387904 now = true) (hdu : ¬ now < du) :
    Calls Tryd.prog 24 #[.agg #[.int .i64 p, .int .i64 j, .int .i64 t, .int .i64 h, .int .i64 g, .int .i64 q, .int .i64 s, .int .i64 cp, .slice A n k], .agg #[.int .u32 a, .int .i64 m, .int .i64 3, .int .i64 me, .int .i64 lo, .int .i64 fa, .int .u32 nx, .int .i64 du, .bool ch], .int .i64 now] w (GivR 0 ⟨a, m, 4, me, 0, fa, nx, now + g, ch⟩ w) := by
  have yr := Blk.new (w.alloc (.cells #[.int .i64 p, .int .i64 j, .int .i64 t, .int .i64 h, .int .i64 g, .int .i64 q, .int .i64 s, .int .i64 cp, .slice A n k] 24)) 31 #[.int .u32 a, .int .i64 m, .int .i64 3, .int .i64 me, .int .i64 lo, .int .i64 fa, .int .u32 nx, .int .i64 du, .bool ch]
  replace yr := yr.alloc (.cells #[.int .u32 0, .int .i64 0, .int .i64 0, .int .i64 0, .int .i64 0, .int .i64 0, .int .u32 0, .int .i64 0, .bool false] 31)
  replace yr := yr.alloc (.cells #[.int .i64 0] 36)
  have yo := (Blk.new ((w.alloc (.cells #[.int .i64 p, .int .i64 j, .int .i64 t, .int .i64 h, .int .i64 g, .int .i64 q, .int .i64 s, .int .i64 cp, .slice A n k] 24)).alloc (.cells #[.int .u32 a, .int .i64 m, .int .i64 3, .int .i64 me, .int .i64 lo, .int .i64 fa, .int .u32 nx, .int .i64 du, .bool ch] 31)) 31 #[.int .u32 0, .int .i64 0, .int .i64 0, .int .i64 0, .int .i64 0, .int .i64 0, .int .u32 0, .int .i64 0, .bool false]).alloc (.cells #[.int .i64 0] 36)
  have ye := Blk.new (((w.alloc (.cells #[.int .i64 p, .int .i64 j, .int .i64 t, .int .i64 h, .int .i64 g, .int .i64 q, .int .i64 s, .int .i64 cp, .slice A n k] 24)).alloc (.cells #[.int .u32 a, .int .i64 m, .int .i64 3, .int .i64 me, .int .i64 lo, .int .i64 fa, .int .u32 nx, .int .i64 du, .bool ch] 31)).alloc (.cells #[.int .u32 0, .int .i64 0, .int .i64 0, .int .i64 0, .int .i64 0, .int .i64 0, .int .u32 0, .int .i64 0, .bool false] 31)) 36 #[.int .i64 0]
  have yc := (Blk.new w 24 #[.int .i64 p, .int .i64 j, .int .i64 t, .int .i64 h, .int .i64 g, .int .i64 q, .int .i64 s, .int .i64 cp, .slice A n k]).alloc (.cells #[.int .u32 a, .int .i64 m, .int .i64 3, .int .i64 me, .int .i64 lo, .int .i64 fa, .int .u32 nx, .int .i64 du, .bool ch] 31)
  replace yc := yc.alloc (.cells #[.int .u32 0, .int .i64 0, .int .i64 0, .int .i64 0, .int .i64 0, .int .i64 0, .int .u32 0, .int .i64 0, .bool false] 31)
  replace yc := yc.alloc (.cells #[.int .i64 0] 36)
  simp only [World.size_alloc] at yr yo ye
  have BB : Below w.heap.size w ((((w.alloc (.cells #[.int .i64 p, .int .i64 j, .int .i64 t, .int .i64 h, .int .i64 g, .int .i64 q, .int .i64 s, .int .i64 cp, .slice A n k] 24)).alloc (.cells #[.int .u32 a, .int .i64 m, .int .i64 3, .int .i64 me, .int .i64 lo, .int .i64 fa, .int .u32 nx, .int .i64 du, .bool ch] 31)).alloc (.cells #[.int .u32 0, .int .i64 0, .int .i64 0, .int .i64 0, .int .i64 0, .int .i64 0, .int .u32 0, .int .i64 0, .bool false] 31)).alloc (.cells #[.int .i64 0] 36)) := balloc (balloc (balloc (balloc (Below.refl _ _) _) _) _) _
  have H1 := Lib.hid (mustBeR_any p j t h g q s cp A n k B l hn a m 3 me lo fa nx du ch ((((w.alloc (.cells #[.int .i64 p, .int .i64 j, .int .i64 t, .int .i64 h, .int .i64 g, .int .i64 q, .int .i64 s, .int .i64 cp, .slice A n k] 24)).alloc (.cells #[.int .u32 a, .int .i64 m, .int .i64 3, .int .i64 me, .int .i64 lo, .int .i64 fa, .int .u32 nx, .int .i64 du, .bool ch] 31)).alloc (.cells #[.int .u32 0, .int .i64 0, .int .i64 0, .int .i64 0, .int .i64 0, .int .i64 0, .int .u32 0, .int .i64 0, .bool false] 31)).alloc (.cells #[.int .i64 0] 36)) (hr.below (BB.mono hB)) (by simp; omega) hnk hk hl (hw.below BB) ha hx)
  have H2 := Lib.hid (fun W => mustNow_any now W)
  rw [hf, show errC true = 0 from rfl, stpE_0] at H1
  rw [hT] at H2
  simp only [if_true, stpE_0] at H2
  have hbd := okC_bounds (Bool.and_eq_true_iff.1 hf).1
  have hT2 : 0 ≤ now ∧ now ≤ 4611686018426387904 := of_decide_eq_true hT
  have hwr : IntKind.i64.wrap (now + h) = now + h := IntWalk.i64_in _ ⟨by omega, by omega⟩
  have hwg : IntKind.i64.wrap (now + g) = now + g := IntWalk.i64_in _ ⟨by omega, by omega⟩
  have HI := Lib.hid (fun W => isTimed_any a m 3 me lo fa nx du ch W)
  have HL := Lib.hid (fun W => lost_any p j t h g q s cp A n k a m 3 me lo fa nx du ch now W hwr)
  rw [show timF 3 = true from rfl] at HI
  have hd1 : decide (now < du) = false := by simpa using hdu
  clear hdu
  have Y := Lib.hid (And.intro yc (And.intro yr (And.intro yo (And.intro ye BB))))
  clear yc yr yo ye BB
  have hmf : ∀ (fn : Fn) (first cap : Array Value) (w : World), (Instr.makeFunc fn first cap).run Tryd.prog w = .ok (.func fn first cap) w := fun _ _ _ _ => rfl
  clear hr hl hw ha hx hf hn hT hbd hT2 hwr
  go_enter_defers Tryd.func24, Tryd.ntmps24
  go_wp2_with fail
  refine H1.out.mono ?_
  rintro e w1 ⟨rfl, b1⟩
  go_wp2_with fail
  refine (H2.out _).mono ?_
  rintro e w2 ⟨rfl, b2⟩
  obtain ⟨yc, yr, yo, ye, BB⟩ := Y.out
  replace yc := yc.below b1 yc.lt
  replace yr := yr.below b1 yr.lt
  replace yo := yo.below b1 yo.lt
  replace ye := ye.below b1 ye.lt
  replace BB := bnext BB b1
  clear b1
  replace yc := yc.below b2 yc.lt
  replace yr := yr.below b2 yr.lt
  replace yo := yo.below b2 yo.lt
  replace ye := ye.below b2 ye.lt
  replace BB := bnext BB b2
  clear b2
  have Y1 := Lib.hid (And.intro yc (And.intro yr (And.intro yo (And.intro ye BB))))
  have c0 := (yr).cell 0
  have c1 := (yr).cell 1
  have c2 := (yr).cell 2
  have c3 := (yr).cell 3
  have c4 := (yr).cell 4
  have c5 := (yr).cell 5
  have c6 := (yr).cell 6
  have c7 := (yr).cell 7
  have c8 := (yr).cell 8
  simp only [List.getElem?_toArray, List.getElem?_cons_zero, List.getElem?_cons_succ] at c0 c1 c2 c3 c4 c5 c6 c7 c8
  clear yc yr yo ye BB
  go_wp2_with fail
  refine (HI.out _).mono ?_
  rintro e w3 ⟨rfl, b3⟩
  obtain ⟨yc, yr, yo, ye, BB⟩ := Y1.out
  have yl := Blk.new w2 78 #[.int .u32 a, .int .i64 m, .int .i64 3, .int .i64 me, .int .i64 lo, .int .i64 fa, .int .u32 nx, .int .i64 du, .bool ch]
  have b2 := balloc (Below.refl w2.heap.size w2) (.cells #[.int .u32 a, .int .i64 m, .int .i64 3, .int .i64 me, .int .i64 lo, .int .i64 fa, .int .u32 nx, .int .i64 du, .bool ch] 78)
  replace yc := yc.below b2 yc.lt
  replace yr := yr.below b2 yr.lt
  replace yo := yo.below b2 yo.lt
  replace ye := ye.below b2 ye.lt
  replace BB := bnext BB b2
  replace yl := yl.below b3 yl.lt
  replace yc := yc.below b3 yc.lt
  replace yr := yr.below b3 yr.lt
  replace yo := yo.below b3 yo.lt
  replace ye := ye.below b3 ye.lt
  replace BB := bnext BB b3
  clear b2 b3
  clear c0 c1 c2 c3 c4 c5 c6 c7 c8
  have z0 := (yl).cell 0
  have z1 := (yl).cell 1
  have z2 := (yl).cell 2
  have z3 := (yl).cell 3
  have z4 := (yl).cell 4
  have z5 := (yl).cell 5
  have z6 := (yl).cell 6
  have z7 := (yl).cell 7
  have z8 := (yl).cell 8
  simp only [List.getElem?_toArray, List.getElem?_cons_zero, List.getElem?_cons_succ] at z0 z1 z2 z3 z4 z5 z6 z7 z8
  have k0 := (yc).cell 0
  have k1 := (yc).cell 1
  have k2 := (yc).cell 2
  have k3 := (yc).cell 3
  have k4 := (yc).cell 4
  have k5 := (yc).cell 5
  have k6 := (yc).cell 6
  have k7 := (yc).cell 7
  have k8 := (yc).cell 8
  simp only [List.getElem?_toArray, List.getElem?_cons_zero, List.getElem?_cons_succ] at k0 k1 k2 k3 k4 k5 k6 k7 k8
  clear yl yc
  have zr := ((yr.set 2 (.int .i64 4)).set 4 (.int .i64 0)).set 7 (.int .i64 (now + g))
  simp only [List.setIfInBounds_toArray, List.set_cons_zero, List.set_cons_succ] at zr
  have zo := ((yo.far (p := ⟨w.heap.size + 1, 2, none⟩) (by show ¬ w.heap.size + 1 + 1 = w.heap.size + 1; omega) (.int .i64 4)).far (p := ⟨w.heap.size + 1, 4, none⟩) (by show ¬ w.heap.size + 1 + 1 = w.heap.size + 1; omega) (.int .i64 0)).far (p := ⟨w.heap.size + 1, 7, none⟩) (by show ¬ w.heap.size + 1 + 1 = w.heap.size + 1; omega) (.int .i64 (now + g))
  have ze := ((ye.far (p := ⟨w.heap.size + 1, 2, none⟩) (by show ¬ w.heap.size + 1 + 1 + 1 = w.heap.size + 1; omega) (.int .i64 4)).far (p := ⟨w.heap.size + 1, 4, none⟩) (by show ¬ w.heap.size + 1 + 1 + 1 = w.heap.size + 1; omega) (.int .i64 0)).far (p := ⟨w.heap.size + 1, 7, none⟩) (by show ¬ w.heap.size + 1 + 1 + 1 = w.heap.size + 1; omega) (.int .i64 (now + g))
  have zb := ((BB.setCell (p := ⟨w.heap.size + 1, 2, none⟩) (by show w.heap.size ≤ w.heap.size + 1; omega) (.int .i64 4)).setCell (p := ⟨w.heap.size + 1, 4, none⟩) (by show w.heap.size ≤ w.heap.size + 1; omega) (.int .i64 0)).setCell (p := ⟨w.heap.size + 1, 7, none⟩) (by show w.heap.size ≤ w.heap.size + 1; omega) (.int .i64 (now + g))
  have Q5 := Lib.hid (And.intro zr (And.intro zo (And.intro ze zb)))
  have c0 := (yr).cell 0
  have c1 := (yr).cell 1
  have c2 := (yr).cell 2
  have c3 := (yr).cell 3
  have c4 := (yr).cell 4
  have c5 := (yr).cell 5
  have c6 := (yr).cell 6
  have c7 := (yr).cell 7
  have c8 := (yr).cell 8
  simp only [List.getElem?_toArray, List.getElem?_cons_zero, List.getElem?_cons_succ] at c0 c1 c2 c3 c4 c5 c6 c7 c8
  have f0 := yr.frozen 0
  have f1 := yr.frozen 1
  have f2 := yr.frozen 2
  have f3 := yr.frozen 3
  have f4 := yr.frozen 4
  have f5 := yr.frozen 5
  have f6 := yr.frozen 6
  have f7 := yr.frozen 7
  have f8 := yr.frozen 8
  clear yr yo ye BB zr zo ze zb
  go_upto_region 11 with fail
  go_region
  go_upto_region 14 with fail
  generalize ((((w3.setCell ⟨w.heap.size + 1, 2, none⟩ (.int .i64 4)).setCell ⟨w.heap.size + 1, 4, none⟩ (.int .i64 0)).setCell ⟨w.heap.size + 1, 7, none⟩ (.int .i64 (now + g)))) = w4 at *
  clear c0 c1 c2 c3 c4 c5 c6 c7 c8 f0 f1 f2 f3 f4 f5 f6 f7 f8 k0 k1 k2 k3 k4 k5 k6 k7 k8 z0 z1 z2 z3 z4 z5 z6 z7 z8
  obtain ⟨yr, yo, ye, BB⟩ := Q5.out
  have c0 := (yr).cell 0
  have c1 := (yr).cell 1
  have c2 := (yr).cell 2
  have c3 := (yr).cell 3
  have c4 := (yr).cell 4
  have c5 := (yr).cell 5
  have c6 := (yr).cell 6
  have c7 := (yr).cell 7
  have c8 := (yr).cell 8
  simp only [List.getElem?_toArray, List.getElem?_cons_zero, List.getElem?_cons_succ] at c0 c1 c2 c3 c4 c5 c6 c7 c8
  clear yr
  have zo := (put9 yo (.int .u32 a) (.int .i64 m) (.int .i64 4) (.int .i64 me) (.int .i64 0) (.int .i64 fa) (.int .u32 nx) (.int .i64 (now + g)) (.bool ch)).far (p := ⟨w.heap.size + 1 + 1 + 1, 0, none⟩) (by show ¬ w.heap.size + 1 + 1 = w.heap.size + 1 + 1 + 1; omega) (.int .i64 0)
  have ze := (put9_far (b := w.heap.size + 1 + 1) ye (by omega) (.int .u32 a) (.int .i64 m) (.int .i64 4) (.int .i64 me) (.int .i64 0) (.int .i64 fa) (.int .u32 nx) (.int .i64 (now + g)) (.bool ch)).set 0 (.int .i64 0)
  have zb := (put9_below (b := w.heap.size + 1 + 1) BB (by omega) (.int .u32 a) (.int .i64 m) (.int .i64 4) (.int .i64 me) (.int .i64 0) (.int .i64 fa) (.int .u32 nx) (.int .i64 (now + g)) (.bool ch)).setCell (p := ⟨w.heap.size + 1 + 1 + 1, 0, none⟩) (by show w.heap.size ≤ w.heap.size + 1 + 1 + 1; omega) (.int .i64 0)
  simp only [List.setIfInBounds_toArray, List.set_cons_zero] at ze
  have QQ := Lib.hid (And.intro zo (And.intro ze zb))
  have oc0 := (yo).cell 0
  have oc1 := (yo).cell 1
  have oc2 := (yo).cell 2
  have oc3 := (yo).cell 3
  have oc4 := (yo).cell 4
  have oc5 := (yo).cell 5
  have oc6 := (yo).cell 6
  have oc7 := (yo).cell 7
  have oc8 := (yo).cell 8
  simp only [List.getElem?_toArray, List.getElem?_cons_zero, List.getElem?_cons_succ] at oc0 oc1 oc2 oc3 oc4 oc5 oc6 oc7 oc8
  have of0 := yo.frozen 0
  have of1 := yo.frozen 1
  have of2 := yo.frozen 2
  have of3 := yo.frozen 3
  have of4 := yo.frozen 4
  have of5 := yo.frozen 5
  have of6 := yo.frozen 6
  have of7 := yo.frozen 7
  have of8 := yo.frozen 8
  have ec0 := (ye).cell 0
  simp only [List.getElem?_toArray, List.getElem?_cons_zero, List.getElem?_cons_succ] at ec0
  have ef0 := ye.frozen 0
  clear zo ze zb yo ye BB
  go_wp2_with fail
  refine leaves_cons (f := 49) (args := #[.pointer (some ⟨w.heap.size + 1 + 1, 0, none⟩), .pointer (some ⟨w.heap.size + 1 + 1 + 1, 0, none⟩)]) (by simp) (by simp [go_sem]) ?_
  with_reducible refine (expire_idle (w.heap.size + 1 + 1) (w.heap.size + 1 + 1 + 1) _).mono ?_
  rintro e u' wz ⟨rfl, rfl, rfl⟩
  clear oc0 oc1 oc2 oc3 oc4 oc5 oc6 oc7 oc8 of0 of1 of2 of3 of4 of5 of6 of7 of8 ec0 ef0
  generalize ((((((((((w4.setCell ⟨w.heap.size + 1 + 1, 0, none⟩ (.int .u32 a)).setCell ⟨w.heap.size + 1 + 1, 1, none⟩ (.int .i64 m)).setCell ⟨w.heap.size + 1 + 1, 2, none⟩ (.int .i64 4)).setCell ⟨w.heap.size + 1 + 1, 3, none⟩ (.int .i64 me)).setCell ⟨w.heap.size + 1 + 1, 4, none⟩ (.int .i64 0)).setCell ⟨w.heap.size + 1 + 1, 5, none⟩ (.int .i64 fa)).setCell ⟨w.heap.size + 1 + 1, 6, none⟩ (.int .u32 nx)).setCell ⟨w.heap.size + 1 + 1, 7, none⟩ (.int .i64 (now + g))).setCell ⟨w.heap.size + 1 + 1, 8, none⟩ (.bool ch)).setCell ⟨w.heap.size + 1 + 1 + 1, 0, none⟩ (.int .i64 0)) = wz at *
  have zm := QQ.out.1
  have zu := QQ.out.2.1
  have bz := QQ.out.2.2
  have m0 := (zm).cell 0
  have m1 := (zm).cell 1
  have m2 := (zm).cell 2
  have m3 := (zm).cell 3
  have m4 := (zm).cell 4
  have m5 := (zm).cell 5
  have m6 := (zm).cell 6
  have m7 := (zm).cell 7
  have m8 := (zm).cell 8
  simp only [List.getElem?_toArray, List.getElem?_cons_zero, List.getElem?_cons_succ] at m0 m1 m2 m3 m4 m5 m6 m7 m8
  have u0 := (zu).cell 0
  simp only [List.getElem?_toArray, List.getElem?_cons_zero, List.getElem?_cons_succ] at u0
  simp [Leaves, settle, results, Tryd.results24, go_sem, m0, m1, m2, m3, m4, m5, m6, m7, m8, u0]
  exact ⟨rfl, below_drewN bz 1⟩

set_option maxHeartbeats 2000000 in
theorem expire_four (p j t h g q s cp : Int) (A : Option Addr) (n k B : Nat) (l : List (Nat × Int)) (hn : l.length = n) (a : Nat) (m me lo fa : Int) (nx : Nat) (du : Int) (ch : Bool) (now : Int) (w : World) (hr : Rd w B A (plC l)) (hB : B ≤ w.heap.size) (hnk : n ≤ k) (hk : k ≤ 9223372036854775807) (hl : ∀ x ∈ l, x.1 < 4294967296) (hw : CapsAt w) (ha : a < 4294967296) (hx : nx < 4294967296) (hf : (okC p j t h g q s cp l && okR a m 4 me lo fa nx du ch) = true) (hT : inF 0 4611686018426387904 now = true) (hdu : ¬ now < du) :
    Calls Tryd.prog 24 #[.agg #[.int .i64 p, .int .i64 j, .int .i64 t, .int .i64 h, .int .i64 g, .int .i64 q, .int .i64 s, .int .i64 cp, .slice A n k], .agg #[.int .u32 a, .int .i64 m, .int .i64 4, .int .i64 me, .int .i64 lo, .int .i64 fa, .int .u32 nx, .int .i64 du, .bool ch], .int .i64 now] w (GivR 0 { rz with a := a, m := m } w) := by
  have yr := Blk.new (w.alloc (.cells #[.int .i64 p, .int .i64 j, .int .i64 t, .int .i64 h, .int .i64 g, .int .i64 q, .int .i64 s, .int .i64 cp, .slice A n k] 24)) 31 #[.int .u32 a, .int .i64 m, .int .i64 4, .int .i64 me, .int .i64 lo, .int .i64 fa, .int .u32 nx, .int .i64 du, .bool ch]
  replace yr := yr.alloc (.cells #[.int .u32 0, .int .i64 0, .int .i64 0, .int .i64 0, .int .i64 0, .int .i64 0, .int .u32 0, .int .i64 0, .bool false] 31)
  replace yr := yr.alloc (.cells #[.int .i64 0] 36)
  have yo := (Blk.new ((w.alloc (.cells #[.int .i64 p, .int .i64 j, .int .i64 t, .int .i64 h, .int .i64 g, .int .i64 q, .int .i64 s, .int .i64 cp, .slice A n k] 24)).alloc (.cells #[.int .u32 a, .int .i64 m, .int .i64 4, .int .i64 me, .int .i64 lo, .int .i64 fa, .int .u32 nx, .int .i64 du, .bool ch] 31)) 31 #[.int .u32 0, .int .i64 0, .int .i64 0, .int .i64 0, .int .i64 0, .int .i64 0, .int .u32 0, .int .i64 0, .bool false]).alloc (.cells #[.int .i64 0] 36)
  have ye := Blk.new (((w.alloc (.cells #[.int .i64 p, .int .i64 j, .int .i64 t, .int .i64 h, .int .i64 g, .int .i64 q, .int .i64 s, .int .i64 cp, .slice A n k] 24)).alloc (.cells #[.int .u32 a, .int .i64 m, .int .i64 4, .int .i64 me, .int .i64 lo, .int .i64 fa, .int .u32 nx, .int .i64 du, .bool ch] 31)).alloc (.cells #[.int .u32 0, .int .i64 0, .int .i64 0, .int .i64 0, .int .i64 0, .int .i64 0, .int .u32 0, .int .i64 0, .bool false] 31)) 36 #[.int .i64 0]
  have yc := (Blk.new w 24 #[.int .i64 p, .int .i64 j, .int .i64 t, .int .i64 h, .int .i64 g, .int .i64 q, .int .i64 s, .int .i64 cp, .slice A n k]).alloc (.cells #[.int .u32 a, .int .i64 m, .int .i64 4, .int .i64 me, .int .i64 lo, .int .i64 fa, .int .u32 nx, .int .i64 du, .bool ch] 31)
  replace yc := yc.alloc (.cells #[.int .u32 0, .int .i64 0, .int .i64 0, .int .i64 0, .int .i64 0, .int .i64 0, .int .u32 0, .int .i64 0, .bool false] 31)
  replace yc := yc.alloc (.cells #[.int .i64 0] 36)
  simp only [World.size_alloc] at yr yo ye
  have BB : Below w.heap.size w ((((w.alloc (.cells #[.int .i64 p, .int .i64 j, .int .i64 t, .int .i64 h, .int .i64 g, .int .i64 q, .int .i64 s, .int .i64 cp, .slice A n k] 24)).alloc (.cells #[.int .u32 a, .int .i64 m, .int .i64 4, .int .i64 me, .int .i64 lo, .int .i64 fa, .int .u32 nx, .int .i64 du, .bool ch] 31)).alloc (.cells #[.int .u32 0, .int .i64 0, .int .i64 0, .int .i64 0, .int .i64 0, .int .i64 0, .int .u32 0, .int .i64 0, .bool false] 31)).alloc (.cells #[.int .i64 0] 36)) := balloc (balloc (balloc (balloc (Below.refl _ _) _) _) _) _
  have H1 := Lib.hid (mustBeR_any p j t h g q s cp A n k B l hn a m 4 me lo fa nx du ch ((((w.alloc (.cells #[.int .i64 p, .int .i64 j, .int .i64 t, .int .i64 h, .int .i64 g, .int .i64 q, .int .i64 s, .int .i64 cp, .slice A n k] 24)).alloc (.cells #[.int .u32 a, .int .i64 m, .int .i64 4, .int .i64 me, .int .i64 lo, .int .i64 fa, .int .u32 nx, .int .i64 du, .bool ch] 31)).alloc (.cells #[.int .u32 0, .int .i64 0, .int .i64 0, .int .i64 0, .int .i64 0, .int .i64 0, .int .u32 0, .int .i64 0, .bool false] 31)).alloc (.cells #[.int .i64 0] 36)) (hr.below (BB.mono hB)) (by simp; omega) hnk hk hl (hw.below BB) ha hx)
  have H2 := Lib.hid (fun W => mustNow_any now W)
  rw [hf, show errC true = 0 from rfl, stpE_0] at H1
  rw [hT] at H2
  simp only [if_true, stpE_0] at H2
  have hbd := okC_bounds (Bool.and_eq_true_iff.1 hf).1
  have hT2 : 0 ≤ now ∧ now ≤ 4611686018426387904 := of_decide_eq_true hT
  have hwr : IntKind.i64.wrap (now + h) = now + h := IntWalk.i64_in _ ⟨by omega, by omega⟩
  have hwg : IntKind.i64.wrap (now + g) = now + g := IntWalk.i64_in _ ⟨by omega, by omega⟩
  have HI := Lib.hid (fun W => isTimed_any a m 4 me lo fa nx du ch W)
  have HL := Lib.hid (fun W => lost_any p j t h g q s cp A n k a m 4 me lo fa nx du ch now W hwr)
  rw [show timF 4 = true from rfl] at HI
  have hd1 : decide (now < du) = false := by simpa using hdu
  clear hdu
  have Y := Lib.hid (And.intro yc (And.intro yr (And.intro yo (And.intro ye BB))))
  clear yc yr yo ye BB
  have hmf : ∀ (fn : Fn) (first cap : Array Value) (w : World), (Instr.makeFunc fn first cap).run Tryd.prog w = .ok (.func fn first cap) w := fun _ _ _ _ => rfl
  clear hr hl hw ha hx hf hn hT hbd hT2 hwr
  go_enter_defers Tryd.func24, Tryd.ntmps24
  go_wp2_with fail
  refine H1.out.mono ?_
  rintro e w1 ⟨rfl, b1⟩
  go_wp2_with fail
  refine (H2.out _).mono ?_
  rintro e w2 ⟨rfl, b2⟩
  obtain ⟨yc, yr, yo, ye, BB⟩ := Y.out
  replace yc := yc.below b1 yc.lt
  replace yr := yr.below b1 yr.lt
  replace yo := yo.below b1 yo.lt
  replace ye := ye.below b1 ye.lt
  replace BB := bnext BB b1
  clear b1
  replace yc := yc.below b2 yc.lt
  replace yr := yr.below b2 yr.lt
  replace yo := yo.below b2 yo.lt
  replace ye := ye.below b2 ye.lt
  replace BB := bnext BB b2
  clear b2
  have Y1 := Lib.hid (And.intro yc (And.intro yr (And.intro yo (And.intro ye BB))))
  have c0 := (yr).cell 0
  have c1 := (yr).cell 1
  have c2 := (yr).cell 2
  have c3 := (yr).cell 3
  have c4 := (yr).cell 4
  have c5 := (yr).cell 5
  have c6 := (yr).cell 6
  have c7 := (yr).cell 7
  have c8 := (yr).cell 8
  simp only [List.getElem?_toArray, List.getElem?_cons_zero, List.getElem?_cons_succ] at c0 c1 c2 c3 c4 c5 c6 c7 c8
  clear yc yr yo ye BB
  go_wp2_with fail
  refine (HI.out _).mono ?_
  rintro e w3 ⟨rfl, b3⟩
  obtain ⟨yc, yr, yo, ye, BB⟩ := Y1.out
  have yl := Blk.new w2 78 #[.int .u32 a, .int .i64 m, .int .i64 4, .int .i64 me, .int .i64 lo, .int .i64 fa, .int .u32 nx, .int .i64 du, .bool ch]
  have b2 := balloc (Below.refl w2.heap.size w2) (.cells #[.int .u32 a, .int .i64 m, .int .i64 4, .int .i64 me, .int .i64 lo, .int .i64 fa, .int .u32 nx, .int .i64 du, .bool ch] 78)
  replace yc := yc.below b2 yc.lt
  replace yr := yr.below b2 yr.lt
  replace yo := yo.below b2 yo.lt
  replace ye := ye.below b2 ye.lt
  replace BB := bnext BB b2
  replace yl := yl.below b3 yl.lt
  replace yc := yc.below b3 yc.lt
  replace yr := yr.below b3 yr.lt
  replace yo := yo.below b3 yo.lt
  replace ye := ye.below b3 ye.lt
  replace BB := bnext BB b3
  clear b2 b3
  clear c0 c1 c2 c3 c4 c5 c6 c7 c8
  have z0 := (yl).cell 0
  have z1 := (yl).cell 1
  have z2 := (yl).cell 2
  have z3 := (yl).cell 3
  have z4 := (yl).cell 4
  have z5 := (yl).cell 5
  have z6 := (yl).cell 6
  have z7 := (yl).cell 7
  have z8 := (yl).cell 8
  simp only [List.getElem?_toArray, List.getElem?_cons_zero, List.getElem?_cons_succ] at z0 z1 z2 z3 z4 z5 z6 z7 z8
  clear yl yc
  have hne1 : ¬ w.heap.size + 1 + 1 = w.heap.size + 1 := by omega
  have hne2 : ¬ w.heap.size + 1 + 1 + 1 = w.heap.size + 1 := by omega
  have zr := put9 yr (.int .u32 a) (.int .i64 m) (.int .i64 0) (.int .i64 0) (.int .i64 0) (.int .i64 0) (.int .u32 0) (.int .i64 0) (.bool false)
  have zo := put9_far (b := w.heap.size + 1) yo hne1 (.int .u32 a) (.int .i64 m) (.int .i64 0) (.int .i64 0) (.int .i64 0) (.int .i64 0) (.int .u32 0) (.int .i64 0) (.bool false)
  have ze := put9_far (b := w.heap.size + 1) ye hne2 (.int .u32 a) (.int .i64 m) (.int .i64 0) (.int .i64 0) (.int .i64 0) (.int .i64 0) (.int .u32 0) (.int .i64 0) (.bool false)
  have zb := put9_below (b := w.heap.size + 1) BB (by omega) (.int .u32 a) (.int .i64 m) (.int .i64 0) (.int .i64 0) (.int .i64 0) (.int .i64 0) (.int .u32 0) (.int .i64 0) (.bool false)
  have Q5 := Lib.hid (And.intro zr (And.intro zo (And.intro ze zb)))
  have c0 := (yr).cell 0
  have c1 := (yr).cell 1
  have c2 := (yr).cell 2
  have c3 := (yr).cell 3
  have c4 := (yr).cell 4
  have c5 := (yr).cell 5
  have c6 := (yr).cell 6
  have c7 := (yr).cell 7
  have c8 := (yr).cell 8
  simp only [List.getElem?_toArray, List.getElem?_cons_zero, List.getElem?_cons_succ] at c0 c1 c2 c3 c4 c5 c6 c7 c8
  have f0 := yr.frozen 0
  have f1 := yr.frozen 1
  have f2 := yr.frozen 2
  have f3 := yr.frozen 3
  have f4 := yr.frozen 4
  have f5 := yr.frozen 5
  have f6 := yr.frozen 6
  have f7 := yr.frozen 7
  have f8 := yr.frozen 8
  clear yr yo ye BB zr zo ze zb
  go_upto_region 14 with fail
  generalize (((((((((w3.setCell ⟨w.heap.size + 1, 0, none⟩ (.int .u32 a)).setCell ⟨w.heap.size + 1, 1, none⟩ (.int .i64 m)).setCell ⟨w.heap.size + 1, 2, none⟩ (.int .i64 0)).setCell ⟨w.heap.size + 1, 3, none⟩ (.int .i64 0)).setCell ⟨w.heap.size + 1, 4, none⟩ (.int .i64 0)).setCell ⟨w.heap.size + 1, 5, none⟩ (.int .i64 0)).setCell ⟨w.heap.size + 1, 6, none⟩ (.int .u32 0)).setCell ⟨w.heap.size + 1, 7, none⟩ (.int .i64 0)).setCell ⟨w.heap.size + 1, 8, none⟩ (.bool false)) = w5 at *
  clear c0 c1 c2 c3 c4 c5 c6 c7 c8 f0 f1 f2 f3 f4 f5 f6 f7 f8 z0 z1 z2 z3 z4 z5 z6 z7 z8
  obtain ⟨yr, yo, ye, BB⟩ := Q5.out
  have c0 := (yr).cell 0
  have c1 := (yr).cell 1
  have c2 := (yr).cell 2
  have c3 := (yr).cell 3
  have c4 := (yr).cell 4
  have c5 := (yr).cell 5
  have c6 := (yr).cell 6
  have c7 := (yr).cell 7
  have c8 := (yr).cell 8
  simp only [List.getElem?_toArray, List.getElem?_cons_zero, List.getElem?_cons_succ] at c0 c1 c2 c3 c4 c5 c6 c7 c8
  clear yr
  have zo := (put9 yo (.int .u32 a) (.int .i64 m) (.int .i64 0) (.int .i64 0) (.int .i64 0) (.int .i64 0) (.int .u32 0) (.int .i64 0) (.bool false)).far (p := ⟨w.heap.size + 1 + 1 + 1, 0, none⟩) (by show ¬ w.heap.size + 1 + 1 = w.heap.size + 1 + 1 + 1; omega) (.int .i64 0)
  have ze := (put9_far (b := w.heap.size + 1 + 1) ye (by omega) (.int .u32 a) (.int .i64 m) (.int .i64 0) (.int .i64 0) (.int .i64 0) (.int .i64 0) (.int .u32 0) (.int .i64 0) (.bool false)).set 0 (.int .i64 0)
  have zb := (put9_below (b := w.heap.size + 1 + 1) BB (by omega) (.int .u32 a) (.int .i64 m) (.int .i64 0) (.int .i64 0) (.int .i64 0) (.int .i64 0) (.int .u32 0) (.int .i64 0) (.bool false)).setCell (p := ⟨w.heap.size + 1 + 1 + 1, 0, none⟩) (by show w.heap.size ≤ w.heap.size + 1 + 1 + 1; omega) (.int .i64 0)
  simp only [List.setIfInBounds_toArray, List.set_cons_zero] at ze
  have QQ := Lib.hid (And.intro zo (And.intro ze zb))
  have oc0 := (yo).cell 0
  have oc1 := (yo).cell 1
  have oc2 := (yo).cell 2
  have oc3 := (yo).cell 3
  have oc4 := (yo).cell 4
  have oc5 := (yo).cell 5
  have oc6 := (yo).cell 6
  have oc7 := (yo).cell 7
  have oc8 := (yo).cell 8
  simp only [List.getElem?_toArray, List.getElem?_cons_zero, List.getElem?_cons_succ] at oc0 oc1 oc2 oc3 oc4 oc5 oc6 oc7 oc8
  have of0 := yo.frozen 0
  have of1 := yo.frozen 1
  have of2 := yo.frozen 2
  have of3 := yo.frozen 3
  have of4 := yo.frozen 4
  have of5 := yo.frozen 5
  have of6 := yo.frozen 6
  have of7 := yo.frozen 7
  have of8 := yo.frozen 8
  have ec0 := (ye).cell 0
  simp only [List.getElem?_toArray, List.getElem?_cons_zero, List.getElem?_cons_succ] at ec0
  have ef0 := ye.frozen 0
  clear zo ze zb yo ye BB
  go_wp2_with fail
  refine leaves_cons (f := 49) (args := #[.pointer (some ⟨w.heap.size + 1 + 1, 0, none⟩), .pointer (some ⟨w.heap.size + 1 + 1 + 1, 0, none⟩)]) (by simp) (by simp [go_sem]) ?_
  with_reducible refine (expire_idle (w.heap.size + 1 + 1) (w.heap.size + 1 + 1 + 1) _).mono ?_
  rintro e u' wz ⟨rfl, rfl, rfl⟩
  clear oc0 oc1 oc2 oc3 oc4 oc5 oc6 oc7 oc8 of0 of1 of2 of3 of4 of5 of6 of7 of8 ec0 ef0
  generalize ((((((((((w5.setCell ⟨w.heap.size + 1 + 1, 0, none⟩ (.int .u32 a)).setCell ⟨w.heap.size + 1 + 1, 1, none⟩ (.int .i64 m)).setCell ⟨w.heap.size + 1 + 1, 2, none⟩ (.int .i64 0)).setCell ⟨w.heap.size + 1 + 1, 3, none⟩ (.int .i64 0)).setCell ⟨w.heap.size + 1 + 1, 4, none⟩ (.int .i64 0)).setCell ⟨w.heap.size + 1 + 1, 5, none⟩ (.int .i64 0)).setCell ⟨w.heap.size + 1 + 1, 6, none⟩ (.int .u32 0)).setCell ⟨w.heap.size + 1 + 1, 7, none⟩ (.int .i64 0)).setCell ⟨w.heap.size + 1 + 1, 8, none⟩ (.bool false)).setCell ⟨w.heap.size + 1 + 1 + 1, 0, none⟩ (.int .i64 0)) = wz at *
  have zm := QQ.out.1
  have zu := QQ.out.2.1
  have bz := QQ.out.2.2
  have m0 := (zm).cell 0
  have m1 := (zm).cell 1
  have m2 := (zm).cell 2
  have m3 := (zm).cell 3
  have m4 := (zm).cell 4
  have m5 := (zm).cell 5
  have m6 := (zm).cell 6
  have m7 := (zm).cell 7
  have m8 := (zm).cell 8
  simp only [List.getElem?_toArray, List.getElem?_cons_zero, List.getElem?_cons_succ] at m0 m1 m2 m3 m4 m5 m6 m7 m8
  have u0 := (zu).cell 0
  simp only [List.getElem?_toArray, List.getElem?_cons_zero, List.getElem?_cons_succ] at u0
  simp [Leaves, settle, results, Tryd.results24, go_sem, m0, m1, m2, m3, m4, m5, m6, m7, m8, u0]
  exact ⟨rfl, bz⟩

theorem expire_any (p j t h g q s cp : Int) (A : Option Addr) (n k B : Nat) (l : List (Nat × Int)) (hn : l.length = n) (a : Nat) (m st me lo fa : Int) (nx : Nat) (du : Int) (ch : Bool) (now : Int) (w : World) (hr : Rd w B A (plC l)) (hB : B ≤ w.heap.size) (hnk : n ≤ k) (hk : k ≤ 9223372036854775807) (hl : ∀ x ∈ l, x.1 < 4294967296) (hw : CapsAt w) (ha : a < 4294967296) (hx : nx < 4294967296) :
    Calls Tryd.prog 24 #[.agg #[.int .i64 p, .int .i64 j, .int .i64 t, .int .i64 h, .int .i64 g, .int .i64 q, .int .i64 s, .int .i64 cp, .slice A n k], .agg #[.int .u32 a, .int .i64 m, .int .i64 st, .int .i64 me, .int .i64 lo, .int .i64 fa, .int .u32 nx, .int .i64 du, .bool ch], .int .i64 now] w (GivR (askR (okC p j t h g q s cp l && okR a m st me lo fa nx du ch) now) (outR (askR (okC p j t h g q s cp l && okR a m st me lo fa nx du ch) now) (expR h g ⟨a, m, st, me, lo, fa, nx, du, ch⟩ now)) w) := by
  rcases askR_cases (okC p j t h g q s cp l && okR a m st me lo fa nx du ch) now with ⟨e1, e2⟩ | ⟨e1, e2, e3⟩ | ⟨e1, e2, e3⟩
  · rw [e1]; exact expire_bad p j t h g q s cp A n k B l hn a m st me lo fa nx du ch now w hr hB hnk hk hl hw ha hx e2
  · rw [e1]; exact expire_late p j t h g q s cp A n k B l hn a m st me lo fa nx du ch now w hr hB hnk hk hl hw ha hx e2 e3
  · rw [e1]
    cases ht : timF st
    · rw [show outR 0 (expR h g ⟨a, m, st, me, lo, fa, nx, du, ch⟩ now) = ⟨a, m, st, me, lo, fa, nx, du, ch⟩ from if_pos (Or.inl ht)]
      exact expire_no p j t h g q s cp A n k B l hn a m st me lo fa nx du ch now w hr hB hnk hk hl hw ha hx e2 e3 ht
    · by_cases hd : now < du
      · rw [show outR 0 (expR h g ⟨a, m, st, me, lo, fa, nx, du, ch⟩ now) = ⟨a, m, st, me, lo, fa, nx, du, ch⟩ from if_pos (Or.inr hd)]
        exact expire_wait p j t h g q s cp A n k B l hn a m st me lo fa nx du ch now w hr hB hnk hk hl hw ha hx e2 e3 ht hd
      · have hs : st = 2 ∨ st = 3 ∨ st = 4 := by
          simp [timF] at ht
          omega
        have hno : ∀ x : Int, (x = 2 ∨ x = 3 ∨ x = 4) → ¬ (timF x = false ∨ now < du) := by
          rintro x (rfl | rfl | rfl) (e | e)
          all_goals first | exact hd e | cases e
        rcases hs with rfl | rfl | rfl
        · rw [show outR 0 (expR h g ⟨a, m, 2, me, lo, fa, nx, du, ch⟩ now) = lostR h ⟨a, m, 2, me, lo, fa, nx, du, ch⟩ now from if_neg (hno 2 (by simp))]
          exact expire_two p j t h g q s cp A n k B l hn a m me lo fa nx du ch now w hr hB hnk hk hl hw ha hx e2 e3 hd
        · rw [show outR 0 (expR h g ⟨a, m, 3, me, lo, fa, nx, du, ch⟩ now) = ⟨a, m, 4, me, 0, fa, nx, now + g, ch⟩ from if_neg (hno 3 (by simp))]
          exact expire_three p j t h g q s cp A n k B l hn a m me lo fa nx du ch now w hr hB hnk hk hl hw ha hx e2 e3 hd
        · rw [show outR 0 (expR h g ⟨a, m, 4, me, lo, fa, nx, du, ch⟩ now) = { rz with a := a, m := m } from if_neg (hno 4 (by simp))]
          exact expire_four p j t h g q s cp A n k B l hn a m me lo fa nx du ch now w hr hB hnk hk hl hw ha hx e2 e3 hd
end Go.Proofs.YtgjeejdebneoaaaDoor
