/- route: Hear. -/
import Derived.Test.YtgjeejdebneoaaaDoorRo9
import Derived.Deep.CutRange
namespace Go.Proofs.YtgjeejdebneoaaaDoor
set_option linter.unusedVariables false
set_option linter.unusedSimpArgs false
open Go.RowKit
set_option maxRecDepth 100000

set_option maxHeartbeats 2000000 in
theorem hearE_bad (p j t h g q s cp : Int) (A : Option Addr) (n k B : Nat) (l : List (Nat × Int)) (hn : l.length = n) (a : Nat) (m st me lo fa : Int) (nx : Nat) (du : Int) (ch : Bool) (hf : Int) (hx0 : Nat) (hm now : Int) (w : World) (hr : Rd w B A (plC l)) (hB : B ≤ w.heap.size) (hnk : n ≤ k) (hk : k ≤ 9223372036854775807) (hl : ∀ x ∈ l, x.1 < 4294967296) (hw : CapsAt w) (ha : a < 4294967296) (hx : nx < 4294967296) (hy : hx0 < 4294967296) (h1 : (okC p j t h g q s cp l && okR a m st me lo fa nx du ch) = false) :
    Calls Tryd.prog 10 #[.agg #[.int .i64 p, .int .i64 j, .int .i64 t, .int .i64 h, .int .i64 g, .int .i64 q, .int .i64 s, .int .i64 cp, .slice A n k], .agg #[.int .u32 a, .int .i64 m, .int .i64 st, .int .i64 me, .int .i64 lo, .int .i64 fa, .int .u32 nx, .int .i64 du, .bool ch], .agg #[.int .i64 hf, .int .u32 hx0, .int .i64 hm], .int .i64 now] w (GivR 2 rz w) := by
  have yr := Blk.new (w.alloc (.cells #[.int .i64 p, .int .i64 j, .int .i64 t, .int .i64 h, .int .i64 g, .int .i64 q, .int .i64 s, .int .i64 cp, .slice A n k] 24)) 31 #[.int .u32 a, .int .i64 m, .int .i64 st, .int .i64 me, .int .i64 lo, .int .i64 fa, .int .u32 nx, .int .i64 du, .bool ch]
  replace yr := yr.alloc (.cells #[.int .i64 hf, .int .u32 hx0, .int .i64 hm] 33)
  replace yr := yr.alloc (.cells #[.int .u32 0, .int .i64 0, .int .i64 0, .int .i64 0, .int .i64 0, .int .i64 0, .int .u32 0, .int .i64 0, .bool false] 31)
  replace yr := yr.alloc (.cells #[.int .i64 0] 36)
  have yo := (Blk.new (((w.alloc (.cells #[.int .i64 p, .int .i64 j, .int .i64 t, .int .i64 h, .int .i64 g, .int .i64 q, .int .i64 s, .int .i64 cp, .slice A n k] 24)).alloc (.cells #[.int .u32 a, .int .i64 m, .int .i64 st, .int .i64 me, .int .i64 lo, .int .i64 fa, .int .u32 nx, .int .i64 du, .bool ch] 31)).alloc (.cells #[.int .i64 hf, .int .u32 hx0, .int .i64 hm] 33)) 31 #[.int .u32 0, .int .i64 0, .int .i64 0, .int .i64 0, .int .i64 0, .int .i64 0, .int .u32 0, .int .i64 0, .bool false]).alloc (.cells #[.int .i64 0] 36)
  have ye := Blk.new ((((w.alloc (.cells #[.int .i64 p, .int .i64 j, .int .i64 t, .int .i64 h, .int .i64 g, .int .i64 q, .int .i64 s, .int .i64 cp, .slice A n k] 24)).alloc (.cells #[.int .u32 a, .int .i64 m, .int .i64 st, .int .i64 me, .int .i64 lo, .int .i64 fa, .int .u32 nx, .int .i64 du, .bool ch] 31)).alloc (.cells #[.int .i64 hf, .int .u32 hx0, .int .i64 hm] 33)).alloc (.cells #[.int .u32 0, .int .i64 0, .int .i64 0, .int .i64 0, .int .i64 0, .int .i64 0, .int .u32 0, .int .i64 0, .bool false] 31)) 36 #[.int .i64 0]
  have yc := (Blk.new w 24 #[.int .i64 p, .int .i64 j, .int .i64 t, .int .i64 h, .int .i64 g, .int .i64 q, .int .i64 s, .int .i64 cp, .slice A n k]).alloc (.cells #[.int .u32 a, .int .i64 m, .int .i64 st, .int .i64 me, .int .i64 lo, .int .i64 fa, .int .u32 nx, .int .i64 du, .bool ch] 31)
  replace yc := yc.alloc (.cells #[.int .i64 hf, .int .u32 hx0, .int .i64 hm] 33)
  replace yc := yc.alloc (.cells #[.int .u32 0, .int .i64 0, .int .i64 0, .int .i64 0, .int .i64 0, .int .i64 0, .int .u32 0, .int .i64 0, .bool false] 31)
  replace yc := yc.alloc (.cells #[.int .i64 0] 36)
  have yh := ((Blk.new ((w.alloc (.cells #[.int .i64 p, .int .i64 j, .int .i64 t, .int .i64 h, .int .i64 g, .int .i64 q, .int .i64 s, .int .i64 cp, .slice A n k] 24)).alloc (.cells #[.int .u32 a, .int .i64 m, .int .i64 st, .int .i64 me, .int .i64 lo, .int .i64 fa, .int .u32 nx, .int .i64 du, .bool ch] 31)) 33 #[.int .i64 hf, .int .u32 hx0, .int .i64 hm]).alloc (.cells #[.int .u32 0, .int .i64 0, .int .i64 0, .int .i64 0, .int .i64 0, .int .i64 0, .int .u32 0, .int .i64 0, .bool false] 31)).alloc (.cells #[.int .i64 0] 36)
  simp only [World.size_alloc] at yr yo ye yh
  have BB : Below w.heap.size w (((((w.alloc (.cells #[.int .i64 p, .int .i64 j, .int .i64 t, .int .i64 h, .int .i64 g, .int .i64 q, .int .i64 s, .int .i64 cp, .slice A n k] 24)).alloc (.cells #[.int .u32 a, .int .i64 m, .int .i64 st, .int .i64 me, .int .i64 lo, .int .i64 fa, .int .u32 nx, .int .i64 du, .bool ch] 31)).alloc (.cells #[.int .i64 hf, .int .u32 hx0, .int .i64 hm] 33)).alloc (.cells #[.int .u32 0, .int .i64 0, .int .i64 0, .int .i64 0, .int .i64 0, .int .i64 0, .int .u32 0, .int .i64 0, .bool false] 31)).alloc (.cells #[.int .i64 0] 36)) := balloc (balloc (balloc (balloc (balloc (Below.refl _ _) _) _) _) _) _
  have H1 := Lib.hid (mustBeR_any p j t h g q s cp A n k B l hn a m st me lo fa nx du ch (((((w.alloc (.cells #[.int .i64 p, .int .i64 j, .int .i64 t, .int .i64 h, .int .i64 g, .int .i64 q, .int .i64 s, .int .i64 cp, .slice A n k] 24)).alloc (.cells #[.int .u32 a, .int .i64 m, .int .i64 st, .int .i64 me, .int .i64 lo, .int .i64 fa, .int .u32 nx, .int .i64 du, .bool ch] 31)).alloc (.cells #[.int .i64 hf, .int .u32 hx0, .int .i64 hm] 33)).alloc (.cells #[.int .u32 0, .int .i64 0, .int .i64 0, .int .i64 0, .int .i64 0, .int .i64 0, .int .u32 0, .int .i64 0, .bool false] 31)).alloc (.cells #[.int .i64 0] 36)) (hr.below (BB.mono hB)) (by simp; omega) hnk hk hl (hw.below BB) ha hx)
  rw [h1, show errC false = 2 from rfl, stpE_2] at H1
  have Y := Lib.hid (And.intro yc (And.intro yr (And.intro yh (And.intro yo (And.intro ye BB)))))
  clear yc yr yh yo ye BB
  have hmf : ∀ (fn : Fn) (first cap : Array Value) (w : World), (Instr.makeFunc fn first cap).run Tryd.prog w = .ok (.func fn first cap) w := fun _ _ _ _ => rfl
  clear hr hl hw ha hx h1 hn
  go_enter_defers Tryd.func10, Tryd.ntmps10
  go_wp2_with fail
  refine H1.out.mono ?_
  rintro e w1 ⟨rfl, b1⟩
  obtain ⟨yc, yr, yh, yo, ye, BB⟩ := Y.out
  replace yc := yc.below b1 yc.lt
  replace yr := yr.below b1 yr.lt
  replace yo := yo.below b1 yo.lt
  replace ye := ye.below b1 ye.lt
  replace BB := bnext BB b1
  replace yh := yh.below b1 yh.lt
  clear b1
  go_wp2_with fail
  refine leaves_cons (f := 31) (args := #[.pointer (some ⟨w.heap.size + 1 + 1 + 1, 0, none⟩), .pointer (some ⟨w.heap.size + 1 + 1 + 1 + 1, 0, none⟩)]) (by simp) (by simp [go_sem]) ?_
  with_reducible refine (hear_pan (w.heap.size + 1 + 1 + 1) (w.heap.size + 1 + 1 + 1 + 1) (.int .u32 0) (.int .i64 0) (.int .i64 0) (.int .i64 0) (.int .i64 0) (.int .i64 0) (.int .u32 0) (.int .i64 0) (.bool false) (.int .i64 0) 2 [] _ yo ye (by omega) (by omega)).mono ?_
  rintro e u' wz ⟨rfl, rfl, z1, z2, z4⟩
  have m0 := (z1).cell 0
  have m1 := (z1).cell 1
  have m2 := (z1).cell 2
  have m3 := (z1).cell 3
  have m4 := (z1).cell 4
  have m5 := (z1).cell 5
  have m6 := (z1).cell 6
  have m7 := (z1).cell 7
  have m8 := (z1).cell 8
  simp only [List.getElem?_toArray, List.getElem?_cons_zero, List.getElem?_cons_succ] at m0 m1 m2 m3 m4 m5 m6 m7 m8
  have u0 := (z2).cell 0
  simp only [List.getElem?_toArray, List.getElem?_cons_zero, List.getElem?_cons_succ] at u0
  have bz := BB.trans (z4 w.heap.size (by omega) (by omega))
  simp [Leaves, settle, results, Tryd.results10, go_sem, m0, m1, m2, m3, m4, m5, m6, m7, m8, u0]
  exact ⟨rfl, bz⟩

set_option maxHeartbeats 2000000 in
theorem hearE_deaf (p j t h g q s cp : Int) (A : Option Addr) (n k B : Nat) (l : List (Nat × Int)) (hn : l.length = n) (a : Nat) (m st me lo fa : Int) (nx : Nat) (du : Int) (ch : Bool) (hf : Int) (hx0 : Nat) (hm now : Int) (w : World) (hr : Rd w B A (plC l)) (hB : B ≤ w.heap.size) (hnk : n ≤ k) (hk : k ≤ 9223372036854775807) (hl : ∀ x ∈ l, x.1 < 4294967296) (hw : CapsAt w) (ha : a < 4294967296) (hx : nx < 4294967296) (hy : hx0 < 4294967296) (h1 : (okC p j t h g q s cp l && okR a m st me lo fa nx du ch) = true) (h2 : okH hf hx0 hm = false) :
    Calls Tryd.prog 10 #[.agg #[.int .i64 p, .int .i64 j, .int .i64 t, .int .i64 h, .int .i64 g, .int .i64 q, .int .i64 s, .int .i64 cp, .slice A n k], .agg #[.int .u32 a, .int .i64 m, .int .i64 st, .int .i64 me, .int .i64 lo, .int .i64 fa, .int .u32 nx, .int .i64 du, .bool ch], .agg #[.int .i64 hf, .int .u32 hx0, .int .i64 hm], .int .i64 now] w (GivR 2 rz w) := by
  have yr := Blk.new (w.alloc (.cells #[.int .i64 p, .int .i64 j, .int .i64 t, .int .i64 h, .int .i64 g, .int .i64 q, .int .i64 s, .int .i64 cp, .slice A n k] 24)) 31 #[.int .u32 a, .int .i64 m, .int .i64 st, .int .i64 me, .int .i64 lo, .int .i64 fa, .int .u32 nx, .int .i64 du, .bool ch]
  replace yr := yr.alloc (.cells #[.int .i64 hf, .int .u32 hx0, .int .i64 hm] 33)
  replace yr := yr.alloc (.cells #[.int .u32 0, .int .i64 0, .int .i64 0, .int .i64 0, .int .i64 0, .int .i64 0, .int .u32 0, .int .i64 0, .bool false] 31)
  replace yr := yr.alloc (.cells #[.int .i64 0] 36)
  have yo := (Blk.new (((w.alloc (.cells #[.int .i64 p, .int .i64 j, .int .i64 t, .int .i64 h, .int .i64 g, .int .i64 q, .int .i64 s, .int .i64 cp, .slice A n k] 24)).alloc (.cells #[.int .u32 a, .int .i64 m, .int .i64 st, .int .i64 me, .int .i64 lo, .int .i64 fa, .int .u32 nx, .int .i64 du, .bool ch] 31)).alloc (.cells #[.int .i64 hf, .int .u32 hx0, .int .i64 hm] 33)) 31 #[.int .u32 0, .int .i64 0, .int .i64 0, .int .i64 0, .int .i64 0, .int .i64 0, .int .u32 0, .int .i64 0, .bool false]).alloc (.cells #[.int .i64 0] 36)
  have ye := Blk.new ((((w.alloc (.cells #[.int .i64 p, .int .i64 j, .int .i64 t, .int .i64 h, .int .i64 g, .int .i64 q, .int .i64 s, .int .i64 cp, .slice A n k] 24)).alloc (.cells #[.int .u32 a, .int .i64 m, .int .i64 st, .int .i64 me, .int .i64 lo, .int .i64 fa, .int .u32 nx, .int .i64 du, .bool ch] 31)).alloc (.cells #[.int .i64 hf, .int .u32 hx0, .int .i64 hm] 33)).alloc (.cells #[.int .u32 0, .int .i64 0, .int .i64 0, .int .i64 0, .int .i64 0, .int .i64 0, .int .u32 0, .int .i64 0, .bool false] 31)) 36 #[.int .i64 0]
  have yc := (Blk.new w 24 #[.int .i64 p, .int .i64 j, .int .i64 t, .int .i64 h, .int .i64 g, .int .i64 q, .int .i64 s, .int .i64 cp, .slice A n k]).alloc (.cells #[.int .u32 a, .int .i64 m, .int .i64 st, .int .i64 me, .int .i64 lo, .int .i64 fa, .int .u32 nx, .int .i64 du, .bool ch] 31)
  replace yc := yc.alloc (.cells #[.int .i64 hf, .int .u32 hx0, .int .i64 hm] 33)
  replace yc := yc.alloc (.cells #[.int .u32 0, .int .i64 0, .int .i64 0, .int .i64 0, .int .i64 0, .int .i64 0, .int .u32 0, .int .i64 0, .bool false] 31)
  replace yc := yc.alloc (.cells #[.int .i64 0] 36)
  have yh := ((Blk.new ((w.alloc (.cells #[.int .i64 p, .int .i64 j, .int .i64 t, .int .i64 h, .int .i64 g, .int .i64 q, .int .i64 s, .int .i64 cp, .slice A n k] 24)).alloc (.cells #[.int .u32 a, .int .i64 m, .int .i64 st, .int .i64 me, .int .i64 lo, .int .i64 fa, .int .u32 nx, .int .i64 du, .bool ch] 31)) 33 #[.int .i64 hf, .int .u32 hx0, .int .i64 hm]).alloc (.cells #[.int .u32 0, .int .i64 0, .int .i64 0, .int .i64 0, .int .i64 0, .int .i64 0, .int .u32 0, .int .i64 0, .bool false] 31)).alloc (.cells #[.int .i64 0] 36)
  simp only [World.size_alloc] at yr yo ye yh
  have BB : Below w.heap.size w (((((w.alloc (.cells #[.int .i64 p, .int .i64 j, .int .i64 t, .int .i64 h, .int .i64 g, .int .i64 q, .int .i64 s, .int .i64 cp, .slice A n k] 24)).alloc (.cells #[.int .u32 a, .int .i64 m, .int .i64 st, .int .i64 me, .int .i64 lo, .int .i64 fa, .int .u32 nx, .int .i64 du, .bool ch] 31)).alloc (.cells #[.int .i64 hf, .int .u32 hx0, .int .i64 hm] 33)).alloc (.cells #[.int .u32 0, .int .i64 0, .int .i64 0, .int .i64 0, .int .i64 0, .int .i64 0, .int .u32 0, .int .i64 0, .bool false] 31)).alloc (.cells #[.int .i64 0] 36)) := balloc (balloc (balloc (balloc (balloc (Below.refl _ _) _) _) _) _) _
  have H1 := Lib.hid (mustBeR_any p j t h g q s cp A n k B l hn a m st me lo fa nx du ch (((((w.alloc (.cells #[.int .i64 p, .int .i64 j, .int .i64 t, .int .i64 h, .int .i64 g, .int .i64 q, .int .i64 s, .int .i64 cp, .slice A n k] 24)).alloc (.cells #[.int .u32 a, .int .i64 m, .int .i64 st, .int .i64 me, .int .i64 lo, .int .i64 fa, .int .u32 nx, .int .i64 du, .bool ch] 31)).alloc (.cells #[.int .i64 hf, .int .u32 hx0, .int .i64 hm] 33)).alloc (.cells #[.int .u32 0, .int .i64 0, .int .i64 0, .int .i64 0, .int .i64 0, .int .i64 0, .int .u32 0, .int .i64 0, .bool false] 31)).alloc (.cells #[.int .i64 0] 36)) (hr.below (BB.mono hB)) (by simp; omega) hnk hk hl (hw.below BB) ha hx)
  have H2 := Lib.hid (fun W => mustHeard_any hf hx0 hm W hy)
  rw [h1, show errC true = 0 from rfl, stpE_0] at H1
  rw [h2, show errC false = 2 from rfl, stpE_2] at H2
  have Y := Lib.hid (And.intro yc (And.intro yr (And.intro yh (And.intro yo (And.intro ye BB)))))
  clear yc yr yh yo ye BB
  have hmf : ∀ (fn : Fn) (first cap : Array Value) (w : World), (Instr.makeFunc fn first cap).run Tryd.prog w = .ok (.func fn first cap) w := fun _ _ _ _ => rfl
  clear hr hl hw ha hx hy h1 h2 hn
  go_enter_defers Tryd.func10, Tryd.ntmps10
  go_wp2_with fail
  refine H1.out.mono ?_
  rintro e w1 ⟨rfl, b1⟩
  obtain ⟨yc, yr, yh, yo, ye, BB⟩ := Y.out
  replace yc := yc.below b1 yc.lt
  replace yr := yr.below b1 yr.lt
  replace yo := yo.below b1 yo.lt
  replace ye := ye.below b1 ye.lt
  replace BB := bnext BB b1
  replace yh := yh.below b1 yh.lt
  clear b1
  have YY := Lib.hid (And.intro yo (And.intro ye BB))
  have k0 := (yh).cell 0
  have k1 := (yh).cell 1
  have k2 := (yh).cell 2
  simp only [List.getElem?_toArray, List.getElem?_cons_zero, List.getElem?_cons_succ] at k0 k1 k2
  clear yc yr yo ye BB yh
  go_wp2_with fail
  refine (H2.out _).mono ?_
  rintro e w2 ⟨rfl, b2⟩
  obtain ⟨yo, ye, BB⟩ := YY.out
  replace yo := yo.below b2 yo.lt
  replace ye := ye.below b2 ye.lt
  replace BB := bnext BB b2
  clear b2
  go_wp2_with fail
  refine leaves_cons (f := 31) (args := #[.pointer (some ⟨w.heap.size + 1 + 1 + 1, 0, none⟩), .pointer (some ⟨w.heap.size + 1 + 1 + 1 + 1, 0, none⟩)]) (by simp) (by simp [go_sem]) ?_
  with_reducible refine (hear_pan (w.heap.size + 1 + 1 + 1) (w.heap.size + 1 + 1 + 1 + 1) (.int .u32 0) (.int .i64 0) (.int .i64 0) (.int .i64 0) (.int .i64 0) (.int .i64 0) (.int .u32 0) (.int .i64 0) (.bool false) (.int .i64 0) 2 [] _ yo ye (by omega) (by omega)).mono ?_
  rintro e u' wz ⟨rfl, rfl, z1, z2, z4⟩
  have m0 := (z1).cell 0
  have m1 := (z1).cell 1
  have m2 := (z1).cell 2
  have m3 := (z1).cell 3
  have m4 := (z1).cell 4
  have m5 := (z1).cell 5
  have m6 := (z1).cell 6
  have m7 := (z1).cell 7
  have m8 := (z1).cell 8
  simp only [List.getElem?_toArray, List.getElem?_cons_zero, List.getElem?_cons_succ] at m0 m1 m2 m3 m4 m5 m6 m7 m8
  have u0 := (z2).cell 0
  simp only [List.getElem?_toArray, List.getElem?_cons_zero, List.getElem?_cons_succ] at u0
  have bz := BB.trans (z4 w.heap.size (by omega) (by omega))
  simp [Leaves, settle, results, Tryd.results10, go_sem, m0, m1, m2, m3, m4, m5, m6, m7, m8, u0]
  exact ⟨rfl, bz⟩

set_option maxHeartbeats 2000000 in
theorem hearE_late (p j t h g q s cp : Int) (A : Option Addr) (n k B : Nat) (l : List (Nat × Int)) (hn : l.length = n) (a : Nat) (m st me lo fa : Int) (nx : Nat) (du : Int) (ch : Bool) (hf : Int) (hx0 : Nat) (hm now : Int) (w : World) (hr : Rd w B A (plC l)) (hB : B ≤ w.heap.size) (hnk : n ≤ k) (hk : k ≤ 9223372036854775807) (hl : ∀ x ∈ l, x.1 < 4294967296) (hw : CapsAt w) (ha : a < 4294967296) (hx : nx < 4294967296) (hy : hx0 < 4294967296) (h1 : (okC p j t h g q s cp l && okR a m st me lo fa nx du ch) = true) (h2 : okH hf hx0 hm = true) (h3 : inF 0 4611686018426387904 now = false) :
    Calls Tryd.prog 10 #[.agg #[.int .i64 p, .int .i64 j, .int .i64 t, .int .i64 h, .int .i64 g, .int .i64 q, .int .i64 s, .int .i64 cp, .slice A n k], .agg #[.int .u32 a, .int .i64 m, .int .i64 st, .int .i64 me, .int .i64 lo, .int .i64 fa, .int .u32 nx, .int .i64 du, .bool ch], .agg #[.int .i64 hf, .int .u32 hx0, .int .i64 hm], .int .i64 now] w (GivR 170 rz w) := by
  have yr := Blk.new (w.alloc (.cells #[.int .i64 p, .int .i64 j, .int .i64 t, .int .i64 h, .int .i64 g, .int .i64 q, .int .i64 s, .int .i64 cp, .slice A n k] 24)) 31 #[.int .u32 a, .int .i64 m, .int .i64 st, .int .i64 me, .int .i64 lo, .int .i64 fa, .int .u32 nx, .int .i64 du, .bool ch]
  replace yr := yr.alloc (.cells #[.int .i64 hf, .int .u32 hx0, .int .i64 hm] 33)
  replace yr := yr.alloc (.cells #[.int .u32 0, .int .i64 0, .int .i64 0, .int .i64 0, .int .i64 0, .int .i64 0, .int .u32 0, .int .i64 0, .bool false] 31)
  replace yr := yr.alloc (.cells #[.int .i64 0] 36)
  have yo := (Blk.new (((w.alloc (.cells #[.int .i64 p, .int .i64 j, .int .i64 t, .int .i64 h, .int .i64 g, .int .i64 q, .int .i64 s, .int .i64 cp, .slice A n k] 24)).alloc (.cells #[.int .u32 a, .int .i64 m, .int .i64 st, .int .i64 me, .int .i64 lo, .int .i64 fa, .int .u32 nx, .int .i64 du, .bool ch] 31)).alloc (.cells #[.int .i64 hf, .int .u32 hx0, .int .i64 hm] 33)) 31 #[.int .u32 0, .int .i64 0, .int .i64 0, .int .i64 0, .int .i64 0, .int .i64 0, .int .u32 0, .int .i64 0, .bool false]).alloc (.cells #[.int .i64 0] 36)
  have ye := Blk.new ((((w.alloc (.cells #[.int .i64 p, .int .i64 j, .int .i64 t, .int .i64 h, .int .i64 g, .int .i64 q, .int .i64 s, .int .i64 cp, .slice A n k] 24)).alloc (.cells #[.int .u32 a, .int .i64 m, .int .i64 st, .int .i64 me, .int .i64 lo, .int .i64 fa, .int .u32 nx, .int .i64 du, .bool ch] 31)).alloc (.cells #[.int .i64 hf, .int .u32 hx0, .int .i64 hm] 33)).alloc (.cells #[.int .u32 0, .int .i64 0, .int .i64 0, .int .i64 0, .int .i64 0, .int .i64 0, .int .u32 0, .int .i64 0, .bool false] 31)) 36 #[.int .i64 0]
  have yc := (Blk.new w 24 #[.int .i64 p, .int .i64 j, .int .i64 t, .int .i64 h, .int .i64 g, .int .i64 q, .int .i64 s, .int .i64 cp, .slice A n k]).alloc (.cells #[.int .u32 a, .int .i64 m, .int .i64 st, .int .i64 me, .int .i64 lo, .int .i64 fa, .int .u32 nx, .int .i64 du, .bool ch] 31)
  replace yc := yc.alloc (.cells #[.int .i64 hf, .int .u32 hx0, .int .i64 hm] 33)
  replace yc := yc.alloc (.cells #[.int .u32 0, .int .i64 0, .int .i64 0, .int .i64 0, .int .i64 0, .int .i64 0, .int .u32 0, .int .i64 0, .bool false] 31)
  replace yc := yc.alloc (.cells #[.int .i64 0] 36)
  have yh := ((Blk.new ((w.alloc (.cells #[.int .i64 p, .int .i64 j, .int .i64 t, .int .i64 h, .int .i64 g, .int .i64 q, .int .i64 s, .int .i64 cp, .slice A n k] 24)).alloc (.cells #[.int .u32 a, .int .i64 m, .int .i64 st, .int .i64 me, .int .i64 lo, .int .i64 fa, .int .u32 nx, .int .i64 du, .bool ch] 31)) 33 #[.int .i64 hf, .int .u32 hx0, .int .i64 hm]).alloc (.cells #[.int .u32 0, .int .i64 0, .int .i64 0, .int .i64 0, .int .i64 0, .int .i64 0, .int .u32 0, .int .i64 0, .bool false] 31)).alloc (.cells #[.int .i64 0] 36)
  simp only [World.size_alloc] at yr yo ye yh
  have BB : Below w.heap.size w (((((w.alloc (.cells #[.int .i64 p, .int .i64 j, .int .i64 t, .int .i64 h, .int .i64 g, .int .i64 q, .int .i64 s, .int .i64 cp, .slice A n k] 24)).alloc (.cells #[.int .u32 a, .int .i64 m, .int .i64 st, .int .i64 me, .int .i64 lo, .int .i64 fa, .int .u32 nx, .int .i64 du, .bool ch] 31)).alloc (.cells #[.int .i64 hf, .int .u32 hx0, .int .i64 hm] 33)).alloc (.cells #[.int .u32 0, .int .i64 0, .int .i64 0, .int .i64 0, .int .i64 0, .int .i64 0, .int .u32 0, .int .i64 0, .bool false] 31)).alloc (.cells #[.int .i64 0] 36)) := balloc (balloc (balloc (balloc (balloc (Below.refl _ _) _) _) _) _) _
  have H1 := Lib.hid (mustBeR_any p j t h g q s cp A n k B l hn a m st me lo fa nx du ch (((((w.alloc (.cells #[.int .i64 p, .int .i64 j, .int .i64 t, .int .i64 h, .int .i64 g, .int .i64 q, .int .i64 s, .int .i64 cp, .slice A n k] 24)).alloc (.cells #[.int .u32 a, .int .i64 m, .int .i64 st, .int .i64 me, .int .i64 lo, .int .i64 fa, .int .u32 nx, .int .i64 du, .bool ch] 31)).alloc (.cells #[.int .i64 hf, .int .u32 hx0, .int .i64 hm] 33)).alloc (.cells #[.int .u32 0, .int .i64 0, .int .i64 0, .int .i64 0, .int .i64 0, .int .i64 0, .int .u32 0, .int .i64 0, .bool false] 31)).alloc (.cells #[.int .i64 0] 36)) (hr.below (BB.mono hB)) (by simp; omega) hnk hk hl (hw.below BB) ha hx)
  have H2 := Lib.hid (fun W => mustHeard_any hf hx0 hm W hy)
  have H3 := Lib.hid (fun W => mustNow_any now W)
  rw [h1, show errC true = 0 from rfl, stpE_0] at H1
  rw [h2, show errC true = 0 from rfl, stpE_0] at H2
  rw [h3] at H3
  simp only [Bool.false_eq_true, if_false, stpE_170] at H3
  have Y := Lib.hid (And.intro yc (And.intro yr (And.intro yh (And.intro yo (And.intro ye BB)))))
  clear yc yr yh yo ye BB
  have hmf : ∀ (fn : Fn) (first cap : Array Value) (w : World), (Instr.makeFunc fn first cap).run Tryd.prog w = .ok (.func fn first cap) w := fun _ _ _ _ => rfl
  clear hr hl hw ha hx hy h1 h2 h3 hn
  go_enter_defers Tryd.func10, Tryd.ntmps10
  go_wp2_with fail
  refine H1.out.mono ?_
  rintro e w1 ⟨rfl, b1⟩
  obtain ⟨yc, yr, yh, yo, ye, BB⟩ := Y.out
  replace yc := yc.below b1 yc.lt
  replace yr := yr.below b1 yr.lt
  replace yo := yo.below b1 yo.lt
  replace ye := ye.below b1 ye.lt
  replace BB := bnext BB b1
  replace yh := yh.below b1 yh.lt
  clear b1
  have YY := Lib.hid (And.intro yc (And.intro yr (And.intro yh (And.intro yo (And.intro ye BB)))))
  have k0 := (yh).cell 0
  have k1 := (yh).cell 1
  have k2 := (yh).cell 2
  simp only [List.getElem?_toArray, List.getElem?_cons_zero, List.getElem?_cons_succ] at k0 k1 k2
  clear yc yr yo ye BB yh
  go_wp2_with fail
  refine (H2.out _).mono ?_
  rintro e w2 ⟨rfl, b2⟩
  go_wp2_with fail
  refine (H3.out _).mono ?_
  rintro e w3 ⟨rfl, b3⟩
  obtain ⟨yc, yr, yh, yo, ye, BB⟩ := YY.out
  clear k0 k1 k2
  replace yc := yc.below b2 yc.lt
  replace yr := yr.below b2 yr.lt
  replace yo := yo.below b2 yo.lt
  replace ye := ye.below b2 ye.lt
  replace BB := bnext BB b2
  replace yh := yh.below b2 yh.lt
  clear b2
  replace yc := yc.below b3 yc.lt
  replace yr := yr.below b3 yr.lt
  replace yo := yo.below b3 yo.lt
  replace ye := ye.below b3 ye.lt
  replace BB := bnext BB b3
  replace yh := yh.below b3 yh.lt
  clear b3
  go_wp2_with fail
  refine leaves_cons (f := 31) (args := #[.pointer (some ⟨w.heap.size + 1 + 1 + 1, 0, none⟩), .pointer (some ⟨w.heap.size + 1 + 1 + 1 + 1, 0, none⟩)]) (by simp) (by simp [go_sem]) ?_
  with_reducible refine (hear_pan (w.heap.size + 1 + 1 + 1) (w.heap.size + 1 + 1 + 1 + 1) (.int .u32 0) (.int .i64 0) (.int .i64 0) (.int .i64 0) (.int .i64 0) (.int .i64 0) (.int .u32 0) (.int .i64 0) (.bool false) (.int .i64 0) 170 [] _ yo ye (by omega) (by omega)).mono ?_
  rintro e u' wz ⟨rfl, rfl, z1, z2, z4⟩
  have m0 := (z1).cell 0
  have m1 := (z1).cell 1
  have m2 := (z1).cell 2
  have m3 := (z1).cell 3
  have m4 := (z1).cell 4
  have m5 := (z1).cell 5
  have m6 := (z1).cell 6
  have m7 := (z1).cell 7
  have m8 := (z1).cell 8
  simp only [List.getElem?_toArray, List.getElem?_cons_zero, List.getElem?_cons_succ] at m0 m1 m2 m3 m4 m5 m6 m7 m8
  have u0 := (z2).cell 0
  simp only [List.getElem?_toArray, List.getElem?_cons_zero, List.getElem?_cons_succ] at u0
  have bz := BB.trans (z4 w.heap.size (by omega) (by omega))
  simp [Leaves, settle, results, Tryd.results10, go_sem, m0, m1, m2, m3, m4, m5, m6, m7, m8, u0]
  exact ⟨rfl, bz⟩

set_option maxHeartbeats 2000000 in
theorem hearE_fine (p j t h g q s cp : Int) (A : Option Addr) (n k B : Nat) (l : List (Nat × Int)) (hn : l.length = n) (a : Nat) (m st me lo fa : Int) (nx : Nat) (du : Int) (ch : Bool) (hf : Int) (hx0 : Nat) (hm now : Int) (w : World) (hr : Rd w B A (plC l)) (hB : B ≤ w.heap.size) (hnk : n ≤ k) (hk : k ≤ 9223372036854775807) (hl : ∀ x ∈ l, x.1 < 4294967296) (hw : CapsAt w) (ha : a < 4294967296) (hx : nx < 4294967296) (hy : hx0 < 4294967296) (h1 : (okC p j t h g q s cp l && okR a m st me lo fa nx du ch) = true) (h2 : okH hf hx0 hm = true) (h3 : inF 0 4611686018426387904 now = true) :
    Calls Tryd.prog 10 #[.agg #[.int .i64 p, .int .i64 j, .int .i64 t, .int .i64 h, .int .i64 g, .int .i64 q, .int .i64 s, .int .i64 cp, .slice A n k], .agg #[.int .u32 a, .int .i64 m, .int .i64 st, .int .i64 me, .int .i64 lo, .int .i64 fa, .int .u32 nx, .int .i64 du, .bool ch], .agg #[.int .i64 hf, .int .u32 hx0, .int .i64 hm], .int .i64 now] w (GivR 0 (hearR t h ⟨a, m, st, me, lo, fa, nx, du, ch⟩ hf hx0 hm now) w) := by
  have yr := Blk.new (w.alloc (.cells #[.int .i64 p, .int .i64 j, .int .i64 t, .int .i64 h, .int .i64 g, .int .i64 q, .int .i64 s, .int .i64 cp, .slice A n k] 24)) 31 #[.int .u32 a, .int .i64 m, .int .i64 st, .int .i64 me, .int .i64 lo, .int .i64 fa, .int .u32 nx, .int .i64 du, .bool ch]
  replace yr := yr.alloc (.cells #[.int .i64 hf, .int .u32 hx0, .int .i64 hm] 33)
  replace yr := yr.alloc (.cells #[.int .u32 0, .int .i64 0, .int .i64 0, .int .i64 0, .int .i64 0, .int .i64 0, .int .u32 0, .int .i64 0, .bool false] 31)
  replace yr := yr.alloc (.cells #[.int .i64 0] 36)
  have yo := (Blk.new (((w.alloc (.cells #[.int .i64 p, .int .i64 j, .int .i64 t, .int .i64 h, .int .i64 g, .int .i64 q, .int .i64 s, .int .i64 cp, .slice A n k] 24)).alloc (.cells #[.int .u32 a, .int .i64 m, .int .i64 st, .int .i64 me, .int .i64 lo, .int .i64 fa, .int .u32 nx, .int .i64 du, .bool ch] 31)).alloc (.cells #[.int .i64 hf, .int .u32 hx0, .int .i64 hm] 33)) 31 #[.int .u32 0, .int .i64 0, .int .i64 0, .int .i64 0, .int .i64 0, .int .i64 0, .int .u32 0, .int .i64 0, .bool false]).alloc (.cells #[.int .i64 0] 36)
  have ye := Blk.new ((((w.alloc (.cells #[.int .i64 p, .int .i64 j, .int .i64 t, .int .i64 h, .int .i64 g, .int .i64 q, .int .i64 s, .int .i64 cp, .slice A n k] 24)).alloc (.cells #[.int .u32 a, .int .i64 m, .int .i64 st, .int .i64 me, .int .i64 lo, .int .i64 fa, .int .u32 nx, .int .i64 du, .bool ch] 31)).alloc (.cells #[.int .i64 hf, .int .u32 hx0, .int .i64 hm] 33)).alloc (.cells #[.int .u32 0, .int .i64 0, .int .i64 0, .int .i64 0, .int .i64 0, .int .i64 0, .int .u32 0, .int .i64 0, .bool false] 31)) 36 #[.int .i64 0]
  have yc := (Blk.new w 24 #[.int .i64 p, .int .i64 j, .int .i64 t, .int .i64 h, .int .i64 g, .int .i64 q, .int .i64 s, .int .i64 cp, .slice A n k]).alloc (.cells #[.int .u32 a, .int .i64 m, .int .i64 st, .int .i64 me, .int .i64 lo, .int .i64 fa, .int .u32 nx, .int .i64 du, .bool ch] 31)
  replace yc := yc.alloc (.cells #[.int .i64 hf, .int .u32 hx0, .int .i64 hm] 33)
  replace yc := yc.alloc (.cells #[.int .u32 0, .int .i64 0, .int .i64 0, .int .i64 0, .int .i64 0, .int .i64 0, .int .u32 0, .int .i64 0, .bool false] 31)
  replace yc := yc.alloc (.cells #[.int .i64 0] 36)
  have yh := ((Blk.new ((w.alloc (.cells #[.int .i64 p, .int .i64 j, .int .i64 t, .int .i64 h, .int .i64 g, .int .i64 q, .int .i64 s, .int .i64 cp, .slice A n k] 24)).alloc (.cells #[.int .u32 a, .int .i64 m, .int .i64 st, .int .i64 me, .int .i64 lo, .int .i64 fa, .int .u32 nx, .int .i64 du, .bool ch] 31)) 33 #[.int .i64 hf, .int .u32 hx0, .int .i64 hm]).alloc (.cells #[.int .u32 0, .int .i64 0, .int .i64 0, .int .i64 0, .int .i64 0, .int .i64 0, .int .u32 0, .int .i64 0, .bool false] 31)).alloc (.cells #[.int .i64 0] 36)
  simp only [World.size_alloc] at yr yo ye yh
  have BB : Below w.heap.size w (((((w.alloc (.cells #[.int .i64 p, .int .i64 j, .int .i64 t, .int .i64 h, .int .i64 g, .int .i64 q, .int .i64 s, .int .i64 cp, .slice A n k] 24)).alloc (.cells #[.int .u32 a, .int .i64 m, .int .i64 st, .int .i64 me, .int .i64 lo, .int .i64 fa, .int .u32 nx, .int .i64 du, .bool ch] 31)).alloc (.cells #[.int .i64 hf, .int .u32 hx0, .int .i64 hm] 33)).alloc (.cells #[.int .u32 0, .int .i64 0, .int .i64 0, .int .i64 0, .int .i64 0, .int .i64 0, .int .u32 0, .int .i64 0, .bool false] 31)).alloc (.cells #[.int .i64 0] 36)) := balloc (balloc (balloc (balloc (balloc (Below.refl _ _) _) _) _) _) _
  have H1 := Lib.hid (mustBeR_any p j t h g q s cp A n k B l hn a m st me lo fa nx du ch (((((w.alloc (.cells #[.int .i64 p, .int .i64 j, .int .i64 t, .int .i64 h, .int .i64 g, .int .i64 q, .int .i64 s, .int .i64 cp, .slice A n k] 24)).alloc (.cells #[.int .u32 a, .int .i64 m, .int .i64 st, .int .i64 me, .int .i64 lo, .int .i64 fa, .int .u32 nx, .int .i64 du, .bool ch] 31)).alloc (.cells #[.int .i64 hf, .int .u32 hx0, .int .i64 hm] 33)).alloc (.cells #[.int .u32 0, .int .i64 0, .int .i64 0, .int .i64 0, .int .i64 0, .int .i64 0, .int .u32 0, .int .i64 0, .bool false] 31)).alloc (.cells #[.int .i64 0] 36)) (hr.below (BB.mono hB)) (by simp; omega) hnk hk hl (hw.below BB) ha hx)
  have H2 := Lib.hid (fun W => mustHeard_any hf hx0 hm W hy)
  have H3 := Lib.hid (fun W => mustNow_any now W)
  rw [h1, show errC true = 0 from rfl, stpE_0] at H1
  have hbd := okC_bounds (Bool.and_eq_true_iff.1 h1).1
  have hst : 0 ≤ st ∧ st ≤ 4 := Classical.byContradiction fun hc => by
    have := okR_st a m st me lo fa nx du ch hc
    rw [this, Bool.and_false] at h1
    cases h1
  have hT2 : 0 ≤ now ∧ now ≤ 4611686018426387904 := of_decide_eq_true h3
  have hm2 : 1 ≤ hm ∧ hm ≤ 16 := of_decide_eq_true (Bool.and_eq_true_iff.1 h2).2
  have hwr : IntKind.i64.wrap (now + h) = now + h := IntWalk.i64_in _ ⟨by omega, by omega⟩
  have hwt : IntKind.i64.wrap (now + t) = now + t := IntWalk.i64_in _ ⟨by omega, by omega⟩
  have HL := Lib.hid (fun W => hear_any p j t h g q s cp A n k a m st me lo fa nx du ch hf hx0 hm now W hst hm2.1 hm2.2 hwr hwt)
  rw [h2, show errC true = 0 from rfl, stpE_0] at H2
  rw [h3] at H3
  simp only [if_true, stpE_0] at H3
  have Y := Lib.hid (And.intro yc (And.intro yr (And.intro yh (And.intro yo (And.intro ye BB)))))
  clear yc yr yh yo ye BB
  have hmf : ∀ (fn : Fn) (first cap : Array Value) (w : World), (Instr.makeFunc fn first cap).run Tryd.prog w = .ok (.func fn first cap) w := fun _ _ _ _ => rfl
  clear hr hl hw ha hx hy h1 h2 h3 hn hbd hst hT2 hm2 hwr hwt
  go_enter_defers Tryd.func10, Tryd.ntmps10
  go_wp2_with fail
  refine H1.out.mono ?_
  rintro e w1 ⟨rfl, b1⟩
  obtain ⟨yc, yr, yh, yo, ye, BB⟩ := Y.out
  replace yc := yc.below b1 yc.lt
  replace yr := yr.below b1 yr.lt
  replace yo := yo.below b1 yo.lt
  replace ye := ye.below b1 ye.lt
  replace BB := bnext BB b1
  replace yh := yh.below b1 yh.lt
  clear b1
  have YY := Lib.hid (And.intro yc (And.intro yr (And.intro yh (And.intro yo (And.intro ye BB)))))
  have k0 := (yh).cell 0
  have k1 := (yh).cell 1
  have k2 := (yh).cell 2
  simp only [List.getElem?_toArray, List.getElem?_cons_zero, List.getElem?_cons_succ] at k0 k1 k2
  clear yc yr yo ye BB yh
  go_wp2_with fail
  refine (H2.out _).mono ?_
  rintro e w2 ⟨rfl, b2⟩
  go_wp2_with fail
  refine (H3.out _).mono ?_
  rintro e w3 ⟨rfl, b3⟩
  obtain ⟨yc, yr, yh, yo, ye, BB⟩ := YY.out
  clear k0 k1 k2
  replace yc := yc.below b2 yc.lt
  replace yr := yr.below b2 yr.lt
  replace yo := yo.below b2 yo.lt
  replace ye := ye.below b2 ye.lt
  replace BB := bnext BB b2
  replace yh := yh.below b2 yh.lt
  clear b2
  replace yc := yc.below b3 yc.lt
  replace yr := yr.below b3 yr.lt
  replace yo := yo.below b3 yo.lt
  replace ye := ye.below b3 ye.lt
  replace BB := bnext BB b3
  replace yh := yh.below b3 yh.lt
  clear b3
  have Y2 := Lib.hid (And.intro yo (And.intro ye BB))
  have c0 := (yr).cell 0
  have c1 := (yr).cell 1
  have c2 := (yr).cell 2
  have c3 := (yr).cell 3
  have c4 := (yr).cell 4
  have c5 := (yr).cell 5
  have c6 := (yr).cell 6
  have c7 := (yr).cell 7
  have c8 := (yr).cell 8
  simp only [List.getElem?_toArray, List.getElem?_cons_zero, List.getElem?_cons_succ] at c0 c1 c2 c3 c4 c5 c6 c7 c8
  have k0 := (yc).cell 0
  have k1 := (yc).cell 1
  have k2 := (yc).cell 2
  have k3 := (yc).cell 3
  have k4 := (yc).cell 4
  have k5 := (yc).cell 5
  have k6 := (yc).cell 6
  have k7 := (yc).cell 7
  have k8 := (yc).cell 8
  simp only [List.getElem?_toArray, List.getElem?_cons_zero, List.getElem?_cons_succ] at k0 k1 k2 k3 k4 k5 k6 k7 k8
  have e0 := (yh).cell 0
  have e1 := (yh).cell 1
  have e2 := (yh).cell 2
  simp only [List.getElem?_toArray, List.getElem?_cons_zero, List.getElem?_cons_succ] at e0 e1 e2
  clear yc yr yo ye BB yh
  go_wp2_with fail
  refine (HL.out _).mono ?_
  rintro e w4 ⟨⟨⟨a1, m1, st1, me1, lo1, fa1, nx1, du1, ch1⟩, hr1, rfl⟩, b4⟩
  obtain ⟨yo, ye, BB⟩ := Y2.out
  replace yo := yo.below b4 yo.lt
  replace ye := ye.below b4 ye.lt
  replace BB := bnext BB b4
  clear c0 c1 c2 c3 c4 c5 c6 c7 c8 k0 k1 k2 k3 k4 k5 k6 k7 k8 e0 e1 e2
  clear b4
  have HR := Lib.hid hr1
  clear hr1
  have zo := (put9 yo (.int .u32 a1) (.int .i64 m1) (.int .i64 st1) (.int .i64 me1) (.int .i64 lo1) (.int .i64 fa1) (.int .u32 nx1) (.int .i64 du1) (.bool ch1)).far (p := ⟨w.heap.size + 1 + 1 + 1 + 1, 0, none⟩) (by show ¬ w.heap.size + 1 + 1 + 1 = w.heap.size + 1 + 1 + 1 + 1; omega) (.int .i64 0)
  have ze := (put9_far (b := w.heap.size + 1 + 1 + 1) ye (by omega) (.int .u32 a1) (.int .i64 m1) (.int .i64 st1) (.int .i64 me1) (.int .i64 lo1) (.int .i64 fa1) (.int .u32 nx1) (.int .i64 du1) (.bool ch1)).set 0 (.int .i64 0)
  have zb := (put9_below (b := w.heap.size + 1 + 1 + 1) BB (by omega) (.int .u32 a1) (.int .i64 m1) (.int .i64 st1) (.int .i64 me1) (.int .i64 lo1) (.int .i64 fa1) (.int .u32 nx1) (.int .i64 du1) (.bool ch1)).setCell (p := ⟨w.heap.size + 1 + 1 + 1 + 1, 0, none⟩) (by show w.heap.size ≤ w.heap.size + 1 + 1 + 1 + 1; omega) (.int .i64 0)
  simp only [List.setIfInBounds_toArray, List.set_cons_zero] at ze
  have QQ := Lib.hid (And.intro zo (And.intro ze zb))
  have oc0 := (yo).cell 0
  have oc1 := (yo).cell 1
  have oc2 := (yo).cell 2
  have oc3 := (yo).cell 3
  have oc4 := (yo).cell 4
  have oc5 := (yo).cell 5
  have oc6 := (yo).cell 6
  have oc7 := (yo).cell 7
  have oc8 := (yo).cell 8
  simp only [List.getElem?_toArray, List.getElem?_cons_zero, List.getElem?_cons_succ] at oc0 oc1 oc2 oc3 oc4 oc5 oc6 oc7 oc8
  have of0 := yo.frozen 0
  have of1 := yo.frozen 1
  have of2 := yo.frozen 2
  have of3 := yo.frozen 3
  have of4 := yo.frozen 4
  have of5 := yo.frozen 5
  have of6 := yo.frozen 6
  have of7 := yo.frozen 7
  have of8 := yo.frozen 8
  have ec0 := (ye).cell 0
  simp only [List.getElem?_toArray, List.getElem?_cons_zero, List.getElem?_cons_succ] at ec0
  have ef0 := ye.frozen 0
  clear zo ze zb yo ye BB
  go_wp2_with fail
  refine leaves_cons (f := 31) (args := #[.pointer (some ⟨w.heap.size + 1 + 1 + 1, 0, none⟩), .pointer (some ⟨w.heap.size + 1 + 1 + 1 + 1, 0, none⟩)]) (by simp) (by simp [go_sem]) ?_
  with_reducible refine (hear_idle (w.heap.size + 1 + 1 + 1) (w.heap.size + 1 + 1 + 1 + 1) _).mono ?_
  rintro e u' wz ⟨rfl, rfl, rfl⟩
  clear oc0 oc1 oc2 oc3 oc4 oc5 oc6 oc7 oc8 of0 of1 of2 of3 of4 of5 of6 of7 of8 ec0 ef0
  generalize ((((((((((w4.setCell ⟨w.heap.size + 1 + 1 + 1, 0, none⟩ (.int .u32 a1)).setCell ⟨w.heap.size + 1 + 1 + 1, 1, none⟩ (.int .i64 m1)).setCell ⟨w.heap.size + 1 + 1 + 1, 2, none⟩ (.int .i64 st1)).setCell ⟨w.heap.size + 1 + 1 + 1, 3, none⟩ (.int .i64 me1)).setCell ⟨w.heap.size + 1 + 1 + 1, 4, none⟩ (.int .i64 lo1)).setCell ⟨w.heap.size + 1 + 1 + 1, 5, none⟩ (.int .i64 fa1)).setCell ⟨w.heap.size + 1 + 1 + 1, 6, none⟩ (.int .u32 nx1)).setCell ⟨w.heap.size + 1 + 1 + 1, 7, none⟩ (.int .i64 du1)).setCell ⟨w.heap.size + 1 + 1 + 1, 8, none⟩ (.bool ch1)).setCell ⟨w.heap.size + 1 + 1 + 1 + 1, 0, none⟩ (.int .i64 0)) = wz at *
  have zm := QQ.out.1
  have zu := QQ.out.2.1
  have bz := QQ.out.2.2
  have m0 := (zm).cell 0
  have m1 := (zm).cell 1
  have m2 := (zm).cell 2
  have m3 := (zm).cell 3
  have m4 := (zm).cell 4
  have m5 := (zm).cell 5
  have m6 := (zm).cell 6
  have m7 := (zm).cell 7
  have m8 := (zm).cell 8
  simp only [List.getElem?_toArray, List.getElem?_cons_zero, List.getElem?_cons_succ] at m0 m1 m2 m3 m4 m5 m6 m7 m8
  have u0 := (zu).cell 0
  simp only [List.getElem?_toArray, List.getElem?_cons_zero, List.getElem?_cons_succ] at u0
  simp [Leaves, settle, results, Tryd.results10, go_sem, m0, m1, m2, m3, m4, m5, m6, m7, m8, u0]
  rw [← HR.out]
  exact ⟨rfl, bz⟩

theorem hearE_any (p j t h g q s cp : Int) (A : Option Addr) (n k B : Nat) (l : List (Nat × Int)) (hn : l.length = n) (a : Nat) (m st me lo fa : Int) (nx : Nat) (du : Int) (ch : Bool) (hf : Int) (hx0 : Nat) (hm now : Int) (w : World) (hr : Rd w B A (plC l)) (hB : B ≤ w.heap.size) (hnk : n ≤ k) (hk : k ≤ 9223372036854775807) (hl : ∀ x ∈ l, x.1 < 4294967296) (hw : CapsAt w) (ha : a < 4294967296) (hx : nx < 4294967296) (hy : hx0 < 4294967296) :
    Calls Tryd.prog 10 #[.agg #[.int .i64 p, .int .i64 j, .int .i64 t, .int .i64 h, .int .i64 g, .int .i64 q, .int .i64 s, .int .i64 cp, .slice A n k], .agg #[.int .u32 a, .int .i64 m, .int .i64 st, .int .i64 me, .int .i64 lo, .int .i64 fa, .int .u32 nx, .int .i64 du, .bool ch], .agg #[.int .i64 hf, .int .u32 hx0, .int .i64 hm], .int .i64 now] w (GivR (askR (okC p j t h g q s cp l && okR a m st me lo fa nx du ch && okH hf hx0 hm) now) (outR (askR (okC p j t h g q s cp l && okR a m st me lo fa nx du ch && okH hf hx0 hm) now) (hearR t h ⟨a, m, st, me, lo, fa, nx, du, ch⟩ hf hx0 hm now)) w) := by
  cases h1 : (okC p j t h g q s cp l && okR a m st me lo fa nx du ch)
  · exact hearE_bad p j t h g q s cp A n k B l hn a m st me lo fa nx du ch hf hx0 hm now w hr hB hnk hk hl hw ha hx hy h1
  cases h2 : okH hf hx0 hm
  · exact hearE_deaf p j t h g q s cp A n k B l hn a m st me lo fa nx du ch hf hx0 hm now w hr hB hnk hk hl hw ha hx hy h1 h2
  cases h3 : inF 0 4611686018426387904 now
  · rw [show askR (true && true) now = 170 by simp [askR, h3]]
    exact hearE_late p j t h g q s cp A n k B l hn a m st me lo fa nx du ch hf hx0 hm now w hr hB hnk hk hl hw ha hx hy h1 h2 h3
  · rw [show askR (true && true) now = 0 by simp [askR, h3]]
    exact hearE_fine p j t h g q s cp A n k B l hn a m st me lo fa nx du ch hf hx0 hm now w hr hB hnk hk hl hw ha hx hy h1 h2 h3
end Go.Proofs.YtgjeejdebneoaaaDoor
