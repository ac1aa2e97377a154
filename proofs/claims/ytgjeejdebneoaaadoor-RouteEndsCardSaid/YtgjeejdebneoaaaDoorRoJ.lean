/- RouteEnds: the walk. -/
import Derived.Test.YtgjeejdebneoaaaDoorRoG
import Derived.Test.YtgjeejdebneoaaaDoorRo8
import Derived.Test.YtgjeejdebneoaaaDoorRoA
import Derived.Test.YtgjeejdebneoaaaDoorRoB
import Derived.Test.YtgjeejdebneoaaaDoorRoC
import Derived.Test.YtgjeejdebneoaaaDoorRoI
namespace Go.Proofs.YtgjeejdebneoaaaDoor
set_option linter.unusedVariables false
set_option linter.unusedSimpArgs false
open Go.RowKit
set_option maxRecDepth 100000

set_option maxHeartbeats 8000000 in
theorem routeends_walk (p j t h g q s cp : Int) (A : Option Addr) (n k B : Nat) (l : List (Nat × Int)) (hn : l.length = n) (a : Nat) (m st me lo fa : Int) (nx : Nat) (du : Int) (ch : Bool) (now : Int) (w : World) (hr : Rd w B A (plC l)) (hB : B ≤ w.heap.size) (hnk : n ≤ k) (hk : k ≤ 9223372036854775807) (hl : ∀ x ∈ l, x.1 < 4294967296) (hw : CapsAt w) (ha : a < 4294967296) (hx : nx < 4294967296) :
    Calls Tryd.prog 6 #[.agg #[.int .i64 p, .int .i64 j, .int .i64 t, .int .i64 h, .int .i64 g, .int .i64 q, .int .i64 s, .int .i64 cp, .slice A n k], .agg #[.int .u32 a, .int .i64 m, .int .i64 st, .int .i64 me, .int .i64 lo, .int .i64 fa, .int .u32 nx, .int .i64 du, .bool ch], .int .i64 now] w fun e w' => e = .returned (.bool true) ∧ Below w.heap.size w w' := by
  have HF := Lib.hid (fun W => few11_any p j t h g q s cp A n k W)
  have HW := Lib.hid (fun W (hW : Below w.heap.size w W) => works11_any W (hw.below hW))
  have HH := Lib.hid (fun W (hW : Below w.heap.size w W) => lose_any p j t h g q s cp A n k B l hn a m st me lo fa nx du ch now W (hr.below (hW.mono hB)) (by have := hW.size; omega) hnk hk hl (hw.below hW) ha hx)
  have HG := Lib.hid (fun W (hW : Below w.heap.size w W) => expire_any p j t h g q s cp A n k B l hn a m st me lo fa nx du ch now W (hr.below (hW.mono hB)) (by have := hW.size; omega) hnk hk hl (hw.below hW) ha hx)
  have HA := Lib.hid (fun W (hW : Below w.heap.size w W) => rask_any p j t h g q s cp A n k B l hn a m st me lo fa nx du ch now W (hr.below (hW.mono hB)) (by have := hW.size; omega) hnk hk hl ha hx)
  have yc := (Blk.new w 24 #[.int .i64 p, .int .i64 j, .int .i64 t, .int .i64 h, .int .i64 g, .int .i64 q, .int .i64 s, .int .i64 cp, .slice A n k]).alloc (.cells #[.int .u32 a, .int .i64 m, .int .i64 st, .int .i64 me, .int .i64 lo, .int .i64 fa, .int .u32 nx, .int .i64 du, .bool ch] 31)
  have yr := Blk.new (w.alloc (.cells #[.int .i64 p, .int .i64 j, .int .i64 t, .int .i64 h, .int .i64 g, .int .i64 q, .int .i64 s, .int .i64 cp, .slice A n k] 24)) 31 #[.int .u32 a, .int .i64 m, .int .i64 st, .int .i64 me, .int .i64 lo, .int .i64 fa, .int .u32 nx, .int .i64 du, .bool ch]
  simp only [World.size_alloc] at yr
  have BB : Below w.heap.size w ((w.alloc (.cells #[.int .i64 p, .int .i64 j, .int .i64 t, .int .i64 h, .int .i64 g, .int .i64 q, .int .i64 s, .int .i64 cp, .slice A n k] 24)).alloc (.cells #[.int .u32 a, .int .i64 m, .int .i64 st, .int .i64 me, .int .i64 lo, .int .i64 fa, .int .u32 nx, .int .i64 du, .bool ch] 31)) := balloc (balloc (Below.refl _ _) _) _
  by_cases h20 : n ≤ 20
  case neg =>
    have Y := Lib.hid BB
    clear yc yr BB hr hl hw hn ha hx
    go_enter Tryd.func6, Tryd.ntmps6
    go_wp2_with fail
    refine (HF.out _).mono ?_
    rintro e w1 ⟨rfl, b1⟩
    rw [decide_eq_false (by omega : ¬ (n : Int) ≤ 20)]
    have BB := bnext Y.out b1
    go_wp2_with fail
    refine (HW.out _ BB).mono ?_
    rintro e w2 ⟨rfl, b2⟩
    go_wp2_with fail
    go_ret
    exact ⟨rfl, bnext BB b2⟩
  have HRL := Lib.hid (fun W q1 => refLose_any p j t h g q s cp A n k a m st me lo fa nx du ch now W q1)
  have HRE := Lib.hid (fun W q1 q2 q3 => rexp_any p j t h g q s cp A n k a m st me lo fa nx du ch now W q1 q2 q3)
  have hbd := Lib.hid (fun hok => okC_bounds (p := p) (j := j) (t := t) (h := h) (g := g) (q := q) (s := s) (cp := cp) (l := l) hok)
  have Y := Lib.hid (And.intro yc (And.intro yr BB))
  clear yc yr BB hr hl hw hn ha hx
  rcases askR_cases (okC p j t h g q s cp l && okR a m st me lo fa nx du ch) now with ⟨e1, e2⟩ | ⟨e1, e2, e3⟩ | ⟨e1, e2, e3⟩
  · rw [e1] at HH HG HA
    rw [show outR 2 (loseR h ⟨a, m, st, me, lo, fa, nx, du, ch⟩ now) = rz from if_neg (by decide)] at HH
    rw [show outR 2 (expR h g ⟨a, m, st, me, lo, fa, nx, du, ch⟩ now) = rz from if_neg (by decide)] at HG
    replace HH : Hid (∀ W (hW : Below w.heap.size w W), Calls Tryd.prog 23 #[.agg #[.int .i64 p, .int .i64 j, .int .i64 t, .int .i64 h, .int .i64 g, .int .i64 q, .int .i64 s, .int .i64 cp, .slice A n k], .agg #[.int .u32 a, .int .i64 m, .int .i64 st, .int .i64 me, .int .i64 lo, .int .i64 fa, .int .u32 nx, .int .i64 du, .bool ch], .int .i64 now] W fun e w' => e = .returned (.tuple #[.agg #[.int .u32 0, .int .i64 0, .int .i64 0, .int .i64 0, .int .i64 0, .int .i64 0, .int .u32 0, .int .i64 0, .bool false], .int .i64 2]) ∧ Below W.heap.size W w') := Lib.hid (fun W hW => HH.out W hW)
    replace HG : Hid (∀ W (hW : Below w.heap.size w W), Calls Tryd.prog 24 #[.agg #[.int .i64 p, .int .i64 j, .int .i64 t, .int .i64 h, .int .i64 g, .int .i64 q, .int .i64 s, .int .i64 cp, .slice A n k], .agg #[.int .u32 a, .int .i64 m, .int .i64 st, .int .i64 me, .int .i64 lo, .int .i64 fa, .int .u32 nx, .int .i64 du, .bool ch], .int .i64 now] W fun e w' => e = .returned (.tuple #[.agg #[.int .u32 0, .int .i64 0, .int .i64 0, .int .i64 0, .int .i64 0, .int .i64 0, .int .u32 0, .int .i64 0, .bool false], .int .i64 2]) ∧ Below W.heap.size W w') := Lib.hid (fun W hW => HG.out W hW)
    have heq := fun W => eq_self 0 0 0 0 0 0 0 0 false W
    clear e1 e2
    go_enter Tryd.func6, Tryd.ntmps6
    go_wp2_with fail
    refine (HF.out _).mono ?_
    rintro e w1 ⟨rfl, b1⟩
    rw [decide_eq_true (by omega : (n : Int) ≤ 20)]
    obtain ⟨yc, yr, BB⟩ := Y.out
    replace yc := yc.below b1 yc.lt
    replace yr := yr.below b1 yr.lt
    replace BB := bnext BB b1
    clear b1
    have c0 := (yr).cell 0
    have c1 := (yr).cell 1
    have c2 := (yr).cell 2
    have c3 := (yr).cell 3
    have c4 := (yr).cell 4
    have c5 := (yr).cell 5
    have c6 := (yr).cell 6
    have c7 := (yr).cell 7
    have c8 := (yr).cell 8
    simp only [List.getElem?_toArray, List.getElem?_cons_zero, List.getElem?_cons_succ] at c0 c1 c2 c3 c4 c5 c6 c7 c8
    have k0 := (yc).cell 0
    have k1 := (yc).cell 1
    have k2 := (yc).cell 2
    have k3 := (yc).cell 3
    have k4 := (yc).cell 4
    have k5 := (yc).cell 5
    have k6 := (yc).cell 6
    have k7 := (yc).cell 7
    have k8 := (yc).cell 8
    simp only [List.getElem?_toArray, List.getElem?_cons_zero, List.getElem?_cons_succ] at k0 k1 k2 k3 k4 k5 k6 k7 k8
    have HHc := HH.out _ BB
    have Y2 := Lib.hid (And.intro yc (And.intro yr BB))
    clear yc yr BB
    go_wp2_with fail
    refine HHc.mono ?_
    rintro e w2 ⟨rfl, b2⟩
    obtain ⟨yc, yr, BB⟩ := Y2.out
    clear HHc Y2
    clear c0 c1 c2 c3 c4 c5 c6 c7 c8 k0 k1 k2 k3 k4 k5 k6 k7 k8
    replace yc := yc.below b2 yc.lt
    replace yr := yr.below b2 yr.lt
    replace BB := bnext BB b2
    have yx := Blk.new w2 31 #[.int .u32 0, .int .i64 0, .int .i64 0, .int .i64 0, .int .i64 0, .int .i64 0, .int .u32 0, .int .i64 0, .bool false]
    replace yc := yc.alloc (.cells #[.int .u32 0, .int .i64 0, .int .i64 0, .int .i64 0, .int .i64 0, .int .i64 0, .int .u32 0, .int .i64 0, .bool false] 31)
    replace yr := yr.alloc (.cells #[.int .u32 0, .int .i64 0, .int .i64 0, .int .i64 0, .int .i64 0, .int .i64 0, .int .u32 0, .int .i64 0, .bool false] 31)
    replace BB := balloc BB (.cells #[.int .u32 0, .int .i64 0, .int .i64 0, .int .i64 0, .int .i64 0, .int .i64 0, .int .u32 0, .int .i64 0, .bool false] 31)
    clear b2
    have c0 := (yr).cell 0
    have c1 := (yr).cell 1
    have c2 := (yr).cell 2
    have c3 := (yr).cell 3
    have c4 := (yr).cell 4
    have c5 := (yr).cell 5
    have c6 := (yr).cell 6
    have c7 := (yr).cell 7
    have c8 := (yr).cell 8
    simp only [List.getElem?_toArray, List.getElem?_cons_zero, List.getElem?_cons_succ] at c0 c1 c2 c3 c4 c5 c6 c7 c8
    have k0 := (yc).cell 0
    have k1 := (yc).cell 1
    have k2 := (yc).cell 2
    have k3 := (yc).cell 3
    have k4 := (yc).cell 4
    have k5 := (yc).cell 5
    have k6 := (yc).cell 6
    have k7 := (yc).cell 7
    have k8 := (yc).cell 8
    simp only [List.getElem?_toArray, List.getElem?_cons_zero, List.getElem?_cons_succ] at k0 k1 k2 k3 k4 k5 k6 k7 k8
    have HHc := HG.out _ BB
    have Y2 := Lib.hid (And.intro yc (And.intro yr (And.intro yx BB)))
    clear yc yr yx BB
    go_wp2_with fail
    refine HHc.mono ?_
    rintro e w3 ⟨rfl, b3⟩
    obtain ⟨yc, yr, yx, BB⟩ := Y2.out
    clear HHc Y2
    clear c0 c1 c2 c3 c4 c5 c6 c7 c8 k0 k1 k2 k3 k4 k5 k6 k7 k8
    replace yc := yc.below b3 yc.lt
    replace yr := yr.below b3 yr.lt
    replace yx := yx.below b3 yx.lt
    replace BB := bnext BB b3
    have yy := Blk.new w3 31 #[.int .u32 0, .int .i64 0, .int .i64 0, .int .i64 0, .int .i64 0, .int .i64 0, .int .u32 0, .int .i64 0, .bool false]
    replace yc := yc.alloc (.cells #[.int .u32 0, .int .i64 0, .int .i64 0, .int .i64 0, .int .i64 0, .int .i64 0, .int .u32 0, .int .i64 0, .bool false] 31)
    replace yr := yr.alloc (.cells #[.int .u32 0, .int .i64 0, .int .i64 0, .int .i64 0, .int .i64 0, .int .i64 0, .int .u32 0, .int .i64 0, .bool false] 31)
    replace yx := yx.alloc (.cells #[.int .u32 0, .int .i64 0, .int .i64 0, .int .i64 0, .int .i64 0, .int .i64 0, .int .u32 0, .int .i64 0, .bool false] 31)
    replace BB := balloc BB (.cells #[.int .u32 0, .int .i64 0, .int .i64 0, .int .i64 0, .int .i64 0, .int .i64 0, .int .u32 0, .int .i64 0, .bool false] 31)
    clear b3
    have c0 := (yr).cell 0
    have c1 := (yr).cell 1
    have c2 := (yr).cell 2
    have c3 := (yr).cell 3
    have c4 := (yr).cell 4
    have c5 := (yr).cell 5
    have c6 := (yr).cell 6
    have c7 := (yr).cell 7
    have c8 := (yr).cell 8
    simp only [List.getElem?_toArray, List.getElem?_cons_zero, List.getElem?_cons_succ] at c0 c1 c2 c3 c4 c5 c6 c7 c8
    have k0 := (yc).cell 0
    have k1 := (yc).cell 1
    have k2 := (yc).cell 2
    have k3 := (yc).cell 3
    have k4 := (yc).cell 4
    have k5 := (yc).cell 5
    have k6 := (yc).cell 6
    have k7 := (yc).cell 7
    have k8 := (yc).cell 8
    simp only [List.getElem?_toArray, List.getElem?_cons_zero, List.getElem?_cons_succ] at k0 k1 k2 k3 k4 k5 k6 k7 k8
    have HAc := HA.out _ BB
    have Y3 := Lib.hid (And.intro yx (And.intro yy BB))
    clear yc yr yx yy BB
    go_wp2_with fail
    refine HAc.mono ?_
    rintro e w4 ⟨rfl, b4⟩
    obtain ⟨yx, yy, BB⟩ := Y3.out
    clear c0 c1 c2 c3 c4 c5 c6 c7 c8 k0 k1 k2 k3 k4 k5 k6 k7 k8
    replace yx := yx.below b4 yx.lt
    replace yy := yy.below b4 yy.lt
    replace BB := bnext BB b4
    clear b4
    have c0 := (yx).cell 0
    have c1 := (yx).cell 1
    have c2 := (yx).cell 2
    have c3 := (yx).cell 3
    have c4 := (yx).cell 4
    have c5 := (yx).cell 5
    have c6 := (yx).cell 6
    have c7 := (yx).cell 7
    have c8 := (yx).cell 8
    simp only [List.getElem?_toArray, List.getElem?_cons_zero, List.getElem?_cons_succ] at c0 c1 c2 c3 c4 c5 c6 c7 c8
    have k0 := (yy).cell 0
    have k1 := (yy).cell 1
    have k2 := (yy).cell 2
    have k3 := (yy).cell 3
    have k4 := (yy).cell 4
    have k5 := (yy).cell 5
    have k6 := (yy).cell 6
    have k7 := (yy).cell 7
    have k8 := (yy).cell 8
    simp only [List.getElem?_toArray, List.getElem?_cons_zero, List.getElem?_cons_succ] at k0 k1 k2 k3 k4 k5 k6 k7 k8
    have HWc := HW.out _ BB
    clear yx yy
    go_wp2_with (first | (go_at_call 12; refine (num_any _ _).mono ?_; rintro e wn ⟨rfl, rfl⟩) | (go_at_call 9; refine HWc.mono ?_; rintro e w5 ⟨rfl, b5⟩))
    go_ret
    exact ⟨rfl, bnext BB b5⟩
  · rw [e1] at HH HG HA
    rw [show outR 170 (loseR h ⟨a, m, st, me, lo, fa, nx, du, ch⟩ now) = rz from if_neg (by decide)] at HH
    rw [show outR 170 (expR h g ⟨a, m, st, me, lo, fa, nx, du, ch⟩ now) = rz from if_neg (by decide)] at HG
    replace HH : Hid (∀ W (hW : Below w.heap.size w W), Calls Tryd.prog 23 #[.agg #[.int .i64 p, .int .i64 j, .int .i64 t, .int .i64 h, .int .i64 g, .int .i64 q, .int .i64 s, .int .i64 cp, .slice A n k], .agg #[.int .u32 a, .int .i64 m, .int .i64 st, .int .i64 me, .int .i64 lo, .int .i64 fa, .int .u32 nx, .int .i64 du, .bool ch], .int .i64 now] W fun e w' => e = .returned (.tuple #[.agg #[.int .u32 0, .int .i64 0, .int .i64 0, .int .i64 0, .int .i64 0, .int .i64 0, .int .u32 0, .int .i64 0, .bool false], .int .i64 170]) ∧ Below W.heap.size W w') := Lib.hid (fun W hW => HH.out W hW)
    replace HG : Hid (∀ W (hW : Below w.heap.size w W), Calls Tryd.prog 24 #[.agg #[.int .i64 p, .int .i64 j, .int .i64 t, .int .i64 h, .int .i64 g, .int .i64 q, .int .i64 s, .int .i64 cp, .slice A n k], .agg #[.int .u32 a, .int .i64 m, .int .i64 st, .int .i64 me, .int .i64 lo, .int .i64 fa, .int .u32 nx, .int .i64 du, .bool ch], .int .i64 now] W fun e w' => e = .returned (.tuple #[.agg #[.int .u32 0, .int .i64 0, .int .i64 0, .int .i64 0, .int .i64 0, .int .i64 0, .int .u32 0, .int .i64 0, .bool false], .int .i64 170]) ∧ Below W.heap.size W w') := Lib.hid (fun W hW => HG.out W hW)
    have heq := fun W => eq_self 0 0 0 0 0 0 0 0 false W
    clear e1 e2 e3
    go_enter Tryd.func6, Tryd.ntmps6
    go_wp2_with fail
    refine (HF.out _).mono ?_
    rintro e w1 ⟨rfl, b1⟩
    rw [decide_eq_true (by omega : (n : Int) ≤ 20)]
    obtain ⟨yc, yr, BB⟩ := Y.out
    replace yc := yc.below b1 yc.lt
    replace yr := yr.below b1 yr.lt
    replace BB := bnext BB b1
    clear b1
    have c0 := (yr).cell 0
    have c1 := (yr).cell 1
    have c2 := (yr).cell 2
    have c3 := (yr).cell 3
    have c4 := (yr).cell 4
    have c5 := (yr).cell 5
    have c6 := (yr).cell 6
    have c7 := (yr).cell 7
    have c8 := (yr).cell 8
    simp only [List.getElem?_toArray, List.getElem?_cons_zero, List.getElem?_cons_succ] at c0 c1 c2 c3 c4 c5 c6 c7 c8
    have k0 := (yc).cell 0
    have k1 := (yc).cell 1
    have k2 := (yc).cell 2
    have k3 := (yc).cell 3
    have k4 := (yc).cell 4
    have k5 := (yc).cell 5
    have k6 := (yc).cell 6
    have k7 := (yc).cell 7
    have k8 := (yc).cell 8
    simp only [List.getElem?_toArray, List.getElem?_cons_zero, List.getElem?_cons_succ] at k0 k1 k2 k3 k4 k5 k6 k7 k8
    have HHc := HH.out _ BB
    have Y2 := Lib.hid (And.intro yc (And.intro yr BB))
    clear yc yr BB
    go_wp2_with fail
    refine HHc.mono ?_
    rintro e w2 ⟨rfl, b2⟩
    obtain ⟨yc, yr, BB⟩ := Y2.out
    clear HHc Y2
    clear c0 c1 c2 c3 c4 c5 c6 c7 c8 k0 k1 k2 k3 k4 k5 k6 k7 k8
    replace yc := yc.below b2 yc.lt
    replace yr := yr.below b2 yr.lt
    replace BB := bnext BB b2
    have yx := Blk.new w2 31 #[.int .u32 0, .int .i64 0, .int .i64 0, .int .i64 0, .int .i64 0, .int .i64 0, .int .u32 0, .int .i64 0, .bool false]
    replace yc := yc.alloc (.cells #[.int .u32 0, .int .i64 0, .int .i64 0, .int .i64 0, .int .i64 0, .int .i64 0, .int .u32 0, .int .i64 0, .bool false] 31)
    replace yr := yr.alloc (.cells #[.int .u32 0, .int .i64 0, .int .i64 0, .int .i64 0, .int .i64 0, .int .i64 0, .int .u32 0, .int .i64 0, .bool false] 31)
    replace BB := balloc BB (.cells #[.int .u32 0, .int .i64 0, .int .i64 0, .int .i64 0, .int .i64 0, .int .i64 0, .int .u32 0, .int .i64 0, .bool false] 31)
    clear b2
    have c0 := (yr).cell 0
    have c1 := (yr).cell 1
    have c2 := (yr).cell 2
    have c3 := (yr).cell 3
    have c4 := (yr).cell 4
    have c5 := (yr).cell 5
    have c6 := (yr).cell 6
    have c7 := (yr).cell 7
    have c8 := (yr).cell 8
    simp only [List.getElem?_toArray, List.getElem?_cons_zero, List.getElem?_cons_succ] at c0 c1 c2 c3 c4 c5 c6 c7 c8
    have k0 := (yc).cell 0
    have k1 := (yc).cell 1
    have k2 := (yc).cell 2
    have k3 := (yc).cell 3
    have k4 := (yc).cell 4
    have k5 := (yc).cell 5
    have k6 := (yc).cell 6
    have k7 := (yc).cell 7
    have k8 := (yc).cell 8
    simp only [List.getElem?_toArray, List.getElem?_cons_zero, List.getElem?_cons_succ] at k0 k1 k2 k3 k4 k5 k6 k7 k8
    have HHc := HG.out _ BB
    have Y2 := Lib.hid (And.intro yc (And.intro yr (And.intro yx BB)))
    clear yc yr yx BB
    go_wp2_with fail
    refine HHc.mono ?_
    rintro e w3 ⟨rfl, b3⟩
    obtain ⟨yc, yr, yx, BB⟩ := Y2.out
    clear HHc Y2
    clear c0 c1 c2 c3 c4 c5 c6 c7 c8 k0 k1 k2 k3 k4 k5 k6 k7 k8
    replace yc := yc.below b3 yc.lt
    replace yr := yr.below b3 yr.lt
    replace yx := yx.below b3 yx.lt
    replace BB := bnext BB b3
    have yy := Blk.new w3 31 #[.int .u32 0, .int .i64 0, .int .i64 0, .int .i64 0, .int .i64 0, .int .i64 0, .int .u32 0, .int .i64 0, .bool false]
    replace yc := yc.alloc (.cells #[.int .u32 0, .int .i64 0, .int .i64 0, .int .i64 0, .int .i64 0, .int .i64 0, .int .u32 0, .int .i64 0, .bool false] 31)
    replace yr := yr.alloc (.cells #[.int .u32 0, .int .i64 0, .int .i64 0, .int .i64 0, .int .i64 0, .int .i64 0, .int .u32 0, .int .i64 0, .bool false] 31)
    replace yx := yx.alloc (.cells #[.int .u32 0, .int .i64 0, .int .i64 0, .int .i64 0, .int .i64 0, .int .i64 0, .int .u32 0, .int .i64 0, .bool false] 31)
    replace BB := balloc BB (.cells #[.int .u32 0, .int .i64 0, .int .i64 0, .int .i64 0, .int .i64 0, .int .i64 0, .int .u32 0, .int .i64 0, .bool false] 31)
    clear b3
    have c0 := (yr).cell 0
    have c1 := (yr).cell 1
    have c2 := (yr).cell 2
    have c3 := (yr).cell 3
    have c4 := (yr).cell 4
    have c5 := (yr).cell 5
    have c6 := (yr).cell 6
    have c7 := (yr).cell 7
    have c8 := (yr).cell 8
    simp only [List.getElem?_toArray, List.getElem?_cons_zero, List.getElem?_cons_succ] at c0 c1 c2 c3 c4 c5 c6 c7 c8
    have k0 := (yc).cell 0
    have k1 := (yc).cell 1
    have k2 := (yc).cell 2
    have k3 := (yc).cell 3
    have k4 := (yc).cell 4
    have k5 := (yc).cell 5
    have k6 := (yc).cell 6
    have k7 := (yc).cell 7
    have k8 := (yc).cell 8
    simp only [List.getElem?_toArray, List.getElem?_cons_zero, List.getElem?_cons_succ] at k0 k1 k2 k3 k4 k5 k6 k7 k8
    have HAc := HA.out _ BB
    have Y3 := Lib.hid (And.intro yx (And.intro yy BB))
    clear yc yr yx yy BB
    go_wp2_with fail
    refine HAc.mono ?_
    rintro e w4 ⟨rfl, b4⟩
    obtain ⟨yx, yy, BB⟩ := Y3.out
    clear c0 c1 c2 c3 c4 c5 c6 c7 c8 k0 k1 k2 k3 k4 k5 k6 k7 k8
    replace yx := yx.below b4 yx.lt
    replace yy := yy.below b4 yy.lt
    replace BB := bnext BB b4
    clear b4
    have c0 := (yx).cell 0
    have c1 := (yx).cell 1
    have c2 := (yx).cell 2
    have c3 := (yx).cell 3
    have c4 := (yx).cell 4
    have c5 := (yx).cell 5
    have c6 := (yx).cell 6
    have c7 := (yx).cell 7
    have c8 := (yx).cell 8
    simp only [List.getElem?_toArray, List.getElem?_cons_zero, List.getElem?_cons_succ] at c0 c1 c2 c3 c4 c5 c6 c7 c8
    have k0 := (yy).cell 0
    have k1 := (yy).cell 1
    have k2 := (yy).cell 2
    have k3 := (yy).cell 3
    have k4 := (yy).cell 4
    have k5 := (yy).cell 5
    have k6 := (yy).cell 6
    have k7 := (yy).cell 7
    have k8 := (yy).cell 8
    simp only [List.getElem?_toArray, List.getElem?_cons_zero, List.getElem?_cons_succ] at k0 k1 k2 k3 k4 k5 k6 k7 k8
    have HWc := HW.out _ BB
    clear yx yy
    go_wp2_with (first | (go_at_call 12; refine (num_any _ _).mono ?_; rintro e wn ⟨rfl, rfl⟩) | (go_at_call 9; refine HWc.mono ?_; rintro e w5 ⟨rfl, b5⟩))
    go_ret
    exact ⟨rfl, bnext BB b5⟩
  · rw [e1] at HH HG HA
    have q1 := Bool.and_eq_true_iff.1 e2
    have hbb := hbd.out q1.1
    have hst : 0 ≤ st ∧ st ≤ 4 := Classical.byContradiction fun hc => by
      have := okR_st a m st me lo fa nx du ch hc
      rw [this] at q1
      exact absurd q1.2 (by decide)
    have hT2 : 0 ≤ now ∧ now ≤ 4611686018426387904 := of_decide_eq_true e3
    have HR1 := Lib.hid (fun W => HRL.out W (IntWalk.i64_in _ ⟨by omega, by omega⟩))
    have HR3 := Lib.hid (fun W => HRE.out W hst (IntWalk.i64_in _ ⟨by omega, by omega⟩) (IntWalk.i64_in _ ⟨by omega, by omega⟩))
    clear q1 hbb hst hT2 e1 e2 e3 HRL HRE hbd
    obtain ⟨⟨a1, m1, st1, me1, lo1, fa1, nx1, du1, ch1⟩, hr1⟩ : ∃ r1, r1 = loseR h ⟨a, m, st, me, lo, fa, nx, du, ch⟩ now := ⟨_, rfl⟩
    obtain ⟨⟨a2, m2, st2, me2, lo2, fa2, nx2, du2, ch2⟩, hr2⟩ : ∃ r2, r2 = expR h g ⟨a, m, st, me, lo, fa, nx, du, ch⟩ now := ⟨_, rfl⟩
    rw [show outR 0 (loseR h ⟨a, m, st, me, lo, fa, nx, du, ch⟩ now) = loseR h ⟨a, m, st, me, lo, fa, nx, du, ch⟩ now from if_pos rfl, ← hr1] at HH
    rw [show outR 0 (expR h g ⟨a, m, st, me, lo, fa, nx, du, ch⟩ now) = expR h g ⟨a, m, st, me, lo, fa, nx, du, ch⟩ now from if_pos rfl, ← hr2] at HG
    rw [← hr1] at HR1
    rw [← hr2] at HR3
    have HR2 : Hid (∀ W, Calls Tryd.prog 26 #[.agg #[.int .i64 p, .int .i64 j, .int .i64 t, .int .i64 h, .int .i64 g, .int .i64 q, .int .i64 s, .int .i64 cp, .slice A n k], .agg #[.int .u32 a, .int .i64 m, .int .i64 st, .int .i64 me, .int .i64 lo, .int .i64 fa, .int .u32 nx, .int .i64 du, .bool ch], .int .i64 now] W fun e w' => e = .returned (.agg #[.int .u32 a1, .int .i64 m1, .int .i64 st1, .int .i64 me1, .int .i64 lo1, .int .i64 fa1, .int .u32 nx1, .int .i64 du1, .bool ch1]) ∧ Below W.heap.size W w') := Lib.hid (fun W => (HR1.out W).mono (by rintro e w' ⟨⟨r, rfl, rfl⟩, b⟩; exact ⟨rfl, b⟩))
    have HR4 : Hid (∀ W, Calls Tryd.prog 27 #[.agg #[.int .i64 p, .int .i64 j, .int .i64 t, .int .i64 h, .int .i64 g, .int .i64 q, .int .i64 s, .int .i64 cp, .slice A n k], .agg #[.int .u32 a, .int .i64 m, .int .i64 st, .int .i64 me, .int .i64 lo, .int .i64 fa, .int .u32 nx, .int .i64 du, .bool ch], .int .i64 now] W fun e w' => e = .returned (.agg #[.int .u32 a2, .int .i64 m2, .int .i64 st2, .int .i64 me2, .int .i64 lo2, .int .i64 fa2, .int .u32 nx2, .int .i64 du2, .bool ch2]) ∧ Below W.heap.size W w') := Lib.hid (fun W => (HR3.out W).mono (by rintro e w' ⟨⟨r, rfl, rfl⟩, b⟩; exact ⟨rfl, b⟩))
    clear hr1 hr2 HR1 HR3
    have heq1 := fun W => eq_self a1 m1 st1 me1 lo1 fa1 nx1 du1 ch1 W
    have heq2 := fun W => eq_self a2 m2 st2 me2 lo2 fa2 nx2 du2 ch2 W
    go_enter Tryd.func6, Tryd.ntmps6
    go_wp2_with fail
    refine (HF.out _).mono ?_
    rintro e w1 ⟨rfl, b1⟩
    rw [decide_eq_true (by omega : (n : Int) ≤ 20)]
    obtain ⟨yc, yr, BB⟩ := Y.out
    replace yc := yc.below b1 yc.lt
    replace yr := yr.below b1 yr.lt
    replace BB := bnext BB b1
    clear b1
    have c0 := (yr).cell 0
    have c1 := (yr).cell 1
    have c2 := (yr).cell 2
    have c3 := (yr).cell 3
    have c4 := (yr).cell 4
    have c5 := (yr).cell 5
    have c6 := (yr).cell 6
    have c7 := (yr).cell 7
    have c8 := (yr).cell 8
    simp only [List.getElem?_toArray, List.getElem?_cons_zero, List.getElem?_cons_succ] at c0 c1 c2 c3 c4 c5 c6 c7 c8
    have k0 := (yc).cell 0
    have k1 := (yc).cell 1
    have k2 := (yc).cell 2
    have k3 := (yc).cell 3
    have k4 := (yc).cell 4
    have k5 := (yc).cell 5
    have k6 := (yc).cell 6
    have k7 := (yc).cell 7
    have k8 := (yc).cell 8
    simp only [List.getElem?_toArray, List.getElem?_cons_zero, List.getElem?_cons_succ] at k0 k1 k2 k3 k4 k5 k6 k7 k8
    have HHc := HH.out _ BB
    have Y2 := Lib.hid (And.intro yc (And.intro yr BB))
    clear yc yr BB
    go_wp2_with fail
    refine HHc.mono ?_
    rintro e w2 ⟨rfl, b2⟩
    obtain ⟨yc, yr, BB⟩ := Y2.out
    clear HHc Y2
    clear c0 c1 c2 c3 c4 c5 c6 c7 c8 k0 k1 k2 k3 k4 k5 k6 k7 k8
    replace yc := yc.below b2 yc.lt
    replace yr := yr.below b2 yr.lt
    replace BB := bnext BB b2
    have yx := Blk.new w2 31 #[.int .u32 a1, .int .i64 m1, .int .i64 st1, .int .i64 me1, .int .i64 lo1, .int .i64 fa1, .int .u32 nx1, .int .i64 du1, .bool ch1]
    replace yc := yc.alloc (.cells #[.int .u32 a1, .int .i64 m1, .int .i64 st1, .int .i64 me1, .int .i64 lo1, .int .i64 fa1, .int .u32 nx1, .int .i64 du1, .bool ch1] 31)
    replace yr := yr.alloc (.cells #[.int .u32 a1, .int .i64 m1, .int .i64 st1, .int .i64 me1, .int .i64 lo1, .int .i64 fa1, .int .u32 nx1, .int .i64 du1, .bool ch1] 31)
    replace BB := balloc BB (.cells #[.int .u32 a1, .int .i64 m1, .int .i64 st1, .int .i64 me1, .int .i64 lo1, .int .i64 fa1, .int .u32 nx1, .int .i64 du1, .bool ch1] 31)
    clear b2
    have c0 := (yr).cell 0
    have c1 := (yr).cell 1
    have c2 := (yr).cell 2
    have c3 := (yr).cell 3
    have c4 := (yr).cell 4
    have c5 := (yr).cell 5
    have c6 := (yr).cell 6
    have c7 := (yr).cell 7
    have c8 := (yr).cell 8
    simp only [List.getElem?_toArray, List.getElem?_cons_zero, List.getElem?_cons_succ] at c0 c1 c2 c3 c4 c5 c6 c7 c8
    have k0 := (yc).cell 0
    have k1 := (yc).cell 1
    have k2 := (yc).cell 2
    have k3 := (yc).cell 3
    have k4 := (yc).cell 4
    have k5 := (yc).cell 5
    have k6 := (yc).cell 6
    have k7 := (yc).cell 7
    have k8 := (yc).cell 8
    simp only [List.getElem?_toArray, List.getElem?_cons_zero, List.getElem?_cons_succ] at k0 k1 k2 k3 k4 k5 k6 k7 k8
    have HHc := HG.out _ BB
    have Y2 := Lib.hid (And.intro yc (And.intro yr (And.intro yx BB)))
    clear yc yr yx BB
    go_wp2_with fail
    refine HHc.mono ?_
    rintro e w3 ⟨rfl, b3⟩
    obtain ⟨yc, yr, yx, BB⟩ := Y2.out
    clear HHc Y2
    clear c0 c1 c2 c3 c4 c5 c6 c7 c8 k0 k1 k2 k3 k4 k5 k6 k7 k8
    replace yc := yc.below b3 yc.lt
    replace yr := yr.below b3 yr.lt
    replace yx := yx.below b3 yx.lt
    replace BB := bnext BB b3
    have yy := Blk.new w3 31 #[.int .u32 a2, .int .i64 m2, .int .i64 st2, .int .i64 me2, .int .i64 lo2, .int .i64 fa2, .int .u32 nx2, .int .i64 du2, .bool ch2]
    replace yc := yc.alloc (.cells #[.int .u32 a2, .int .i64 m2, .int .i64 st2, .int .i64 me2, .int .i64 lo2, .int .i64 fa2, .int .u32 nx2, .int .i64 du2, .bool ch2] 31)
    replace yr := yr.alloc (.cells #[.int .u32 a2, .int .i64 m2, .int .i64 st2, .int .i64 me2, .int .i64 lo2, .int .i64 fa2, .int .u32 nx2, .int .i64 du2, .bool ch2] 31)
    replace yx := yx.alloc (.cells #[.int .u32 a2, .int .i64 m2, .int .i64 st2, .int .i64 me2, .int .i64 lo2, .int .i64 fa2, .int .u32 nx2, .int .i64 du2, .bool ch2] 31)
    replace BB := balloc BB (.cells #[.int .u32 a2, .int .i64 m2, .int .i64 st2, .int .i64 me2, .int .i64 lo2, .int .i64 fa2, .int .u32 nx2, .int .i64 du2, .bool ch2] 31)
    clear b3
    have c0 := (yr).cell 0
    have c1 := (yr).cell 1
    have c2 := (yr).cell 2
    have c3 := (yr).cell 3
    have c4 := (yr).cell 4
    have c5 := (yr).cell 5
    have c6 := (yr).cell 6
    have c7 := (yr).cell 7
    have c8 := (yr).cell 8
    simp only [List.getElem?_toArray, List.getElem?_cons_zero, List.getElem?_cons_succ] at c0 c1 c2 c3 c4 c5 c6 c7 c8
    have k0 := (yc).cell 0
    have k1 := (yc).cell 1
    have k2 := (yc).cell 2
    have k3 := (yc).cell 3
    have k4 := (yc).cell 4
    have k5 := (yc).cell 5
    have k6 := (yc).cell 6
    have k7 := (yc).cell 7
    have k8 := (yc).cell 8
    simp only [List.getElem?_toArray, List.getElem?_cons_zero, List.getElem?_cons_succ] at k0 k1 k2 k3 k4 k5 k6 k7 k8
    have HAc := HA.out _ BB
    have Y3 := Lib.hid (And.intro yx (And.intro yy (And.intro yc (And.intro yr BB))))
    clear yc yr yx yy BB
    go_wp2_with fail
    refine HAc.mono ?_
    rintro e w4 ⟨rfl, b4⟩
    obtain ⟨yx, yy, yc, yr, BB⟩ := Y3.out
    clear c0 c1 c2 c3 c4 c5 c6 c7 c8 k0 k1 k2 k3 k4 k5 k6 k7 k8
    replace yx := yx.below b4 yx.lt
    replace yy := yy.below b4 yy.lt
    replace yr := yr.below b4 yr.lt
    replace yc := yc.below b4 yc.lt
    replace BB := bnext BB b4
    clear b4
    have c0 := fun v : Sub w4 => ((yr).below v.2 (yr).lt).cell 0
    have c1 := fun v : Sub w4 => ((yr).below v.2 (yr).lt).cell 1
    have c2 := fun v : Sub w4 => ((yr).below v.2 (yr).lt).cell 2
    have c3 := fun v : Sub w4 => ((yr).below v.2 (yr).lt).cell 3
    have c4 := fun v : Sub w4 => ((yr).below v.2 (yr).lt).cell 4
    have c5 := fun v : Sub w4 => ((yr).below v.2 (yr).lt).cell 5
    have c6 := fun v : Sub w4 => ((yr).below v.2 (yr).lt).cell 6
    have c7 := fun v : Sub w4 => ((yr).below v.2 (yr).lt).cell 7
    have c8 := fun v : Sub w4 => ((yr).below v.2 (yr).lt).cell 8
    simp only [List.getElem?_toArray, List.getElem?_cons_zero, List.getElem?_cons_succ] at c0 c1 c2 c3 c4 c5 c6 c7 c8
    have k0 := fun v : Sub w4 => ((yc).below v.2 (yc).lt).cell 0
    have k1 := fun v : Sub w4 => ((yc).below v.2 (yc).lt).cell 1
    have k2 := fun v : Sub w4 => ((yc).below v.2 (yc).lt).cell 2
    have k3 := fun v : Sub w4 => ((yc).below v.2 (yc).lt).cell 3
    have k4 := fun v : Sub w4 => ((yc).below v.2 (yc).lt).cell 4
    have k5 := fun v : Sub w4 => ((yc).below v.2 (yc).lt).cell 5
    have k6 := fun v : Sub w4 => ((yc).below v.2 (yc).lt).cell 6
    have k7 := fun v : Sub w4 => ((yc).below v.2 (yc).lt).cell 7
    have k8 := fun v : Sub w4 => ((yc).below v.2 (yc).lt).cell 8
    simp only [List.getElem?_toArray, List.getElem?_cons_zero, List.getElem?_cons_succ] at k0 k1 k2 k3 k4 k5 k6 k7 k8
    have x0 := fun v : Sub w4 => ((yx).below v.2 (yx).lt).cell 0
    have x1 := fun v : Sub w4 => ((yx).below v.2 (yx).lt).cell 1
    have x2 := fun v : Sub w4 => ((yx).below v.2 (yx).lt).cell 2
    have x3 := fun v : Sub w4 => ((yx).below v.2 (yx).lt).cell 3
    have x4 := fun v : Sub w4 => ((yx).below v.2 (yx).lt).cell 4
    have x5 := fun v : Sub w4 => ((yx).below v.2 (yx).lt).cell 5
    have x6 := fun v : Sub w4 => ((yx).below v.2 (yx).lt).cell 6
    have x7 := fun v : Sub w4 => ((yx).below v.2 (yx).lt).cell 7
    have x8 := fun v : Sub w4 => ((yx).below v.2 (yx).lt).cell 8
    simp only [List.getElem?_toArray, List.getElem?_cons_zero, List.getElem?_cons_succ] at x0 x1 x2 x3 x4 x5 x6 x7 x8
    have y0 := fun v : Sub w4 => ((yy).below v.2 (yy).lt).cell 0
    have y1 := fun v : Sub w4 => ((yy).below v.2 (yy).lt).cell 1
    have y2 := fun v : Sub w4 => ((yy).below v.2 (yy).lt).cell 2
    have y3 := fun v : Sub w4 => ((yy).below v.2 (yy).lt).cell 3
    have y4 := fun v : Sub w4 => ((yy).below v.2 (yy).lt).cell 4
    have y5 := fun v : Sub w4 => ((yy).below v.2 (yy).lt).cell 5
    have y6 := fun v : Sub w4 => ((yy).below v.2 (yy).lt).cell 6
    have y7 := fun v : Sub w4 => ((yy).below v.2 (yy).lt).cell 7
    have y8 := fun v : Sub w4 => ((yy).below v.2 (yy).lt).cell 8
    simp only [List.getElem?_toArray, List.getElem?_cons_zero, List.getElem?_cons_succ] at y0 y1 y2 y3 y4 y5 y6 y7 y8
    have HWS := Lib.hid (fun v : Sub w4 => HW.out v.1 (bnext BB v.2))
    have hne : Nonempty (Sub w4) := ⟨⟨_, Below.refl _ _⟩⟩
    clear yx yy yc yr
    go_wp2_with fail
    refine region_sub (by kernel_rfl) (by kernel_rfl) ?_
    repeat (first | go_big_quiet_step ((first | (go_at_call 26; exact sub_below (HR2.out _)) | (go_at_call 27; exact sub_below (HR4.out _)) | (go_at_call 12; exact sub_same (num_any _ _)) | (go_at_call 9; exact sub_below (HWS.out _)))) | quiet_step ((first | (go_at_call 26; exact sub_below (HR2.out _)) | (go_at_call 27; exact sub_below (HR4.out _)) | (go_at_call 12; exact sub_same (num_any _ _)) | (go_at_call 9; exact sub_below (HWS.out _)))))
    refine wpQuiet_nil ?_
    rintro _ ⟨v, rfl⟩
    clear c0 c1 c2 c3 c4 c5 c6 c7 c8 k0 k1 k2 k3 k4 k5 k6 k7 k8 x0 x1 x2 x3 x4 x5 x6 x7 x8 y0 y1 y2 y3 y4 y5 y6 y7 y8
    go_wp2_with fail
    go_ret
    exact ⟨rfl, bnext BB v.2⟩
end Go.Proofs.YtgjeejdebneoaaaDoor
