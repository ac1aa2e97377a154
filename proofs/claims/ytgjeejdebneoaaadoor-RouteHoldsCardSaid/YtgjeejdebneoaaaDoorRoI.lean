/- RouteHears: the walk. -/
import Derived.Test.YtgjeejdebneoaaaDoorRoG
import Derived.Test.YtgjeejdebneoaaaDoorRo8
import Derived.Test.YtgjeejdebneoaaaDoorRoA
import Derived.Test.YtgjeejdebneoaaaDoorRoB
import Derived.Test.YtgjeejdebneoaaaDoorRoC
namespace Go.Proofs.YtgjeejdebneoaaaDoor
set_option linter.unusedVariables false
set_option linter.unusedSimpArgs false
open Go.RowKit
set_option maxRecDepth 100000
theorem few11_any (p j t h g q s cp : Int) (A : Option Addr) (n k : Nat) (w : World) :
    Calls Tryd.prog 8 #[.agg #[.int .i64 p, .int .i64 j, .int .i64 t, .int .i64 h, .int .i64 g, .int .i64 q, .int .i64 s, .int .i64 cp, .slice A n k]] w fun e w' => e = .returned (.bool (decide ((n : Int) ≤ 20))) ∧ Below w.heap.size w w' := by
  go_enter Tryd.func8, Tryd.ntmps8
  go_wp2
  go_ret
  exact ⟨rfl, balloc (Below.refl _ _) _⟩
theorem eq_self (a m st me lo fa nx du : Int) (ch : Bool) (W : World) : (binOp .eql 31 (.agg #[.int .u32 a, .int .i64 m, .int .i64 st, .int .i64 me, .int .i64 lo, .int .i64 fa, .int .u32 nx, .int .i64 du, .bool ch]) (.agg #[.int .u32 a, .int .i64 m, .int .i64 st, .int .i64 me, .int .i64 lo, .int .i64 fa, .int .u32 nx, .int .i64 du, .bool ch])).run Tryd.prog W = .ok (.bool true) W := by
  have q := eq_rt a m st me lo fa nx du a m st me lo fa nx du ch ch W
  simpa using q

set_option maxHeartbeats 8000000 in
theorem routehears_walk (p j t h g q s cp : Int) (A : Option Addr) (n k B : Nat) (l : List (Nat × Int)) (hn : l.length = n) (a : Nat) (m st me lo fa : Int) (nx : Nat) (du : Int) (ch : Bool) (hf : Int) (hx0 : Nat) (hm now : Int) (w : World) (hr : Rd w B A (plC l)) (hB : B ≤ w.heap.size) (hnk : n ≤ k) (hk : k ≤ 9223372036854775807) (hl : ∀ x ∈ l, x.1 < 4294967296) (hw : CapsAt w) (ha : a < 4294967296) (hx : nx < 4294967296) (hy : hx0 < 4294967296) :
    Calls Tryd.prog 3 #[.agg #[.int .i64 p, .int .i64 j, .int .i64 t, .int .i64 h, .int .i64 g, .int .i64 q, .int .i64 s, .int .i64 cp, .slice A n k], .agg #[.int .u32 a, .int .i64 m, .int .i64 st, .int .i64 me, .int .i64 lo, .int .i64 fa, .int .u32 nx, .int .i64 du, .bool ch], .agg #[.int .i64 hf, .int .u32 hx0, .int .i64 hm], .int .i64 now] w fun e w' => e = .returned (.bool true) ∧ Below w.heap.size w w' := by
  have HF := Lib.hid (fun W => few11_any p j t h g q s cp A n k W)
  have HW := Lib.hid (fun W (hW : Below w.heap.size w W) => works11_any W (hw.below hW))
  have HH := Lib.hid (fun W (hW : Below w.heap.size w W) => hearE_any p j t h g q s cp A n k B l hn a m st me lo fa nx du ch hf hx0 hm now W (hr.below (hW.mono hB)) (by have := hW.size; omega) hnk hk hl (hw.below hW) ha hx hy)
  have HA := Lib.hid (fun W (hW : Below w.heap.size w W) => raskedH_any p j t h g q s cp A n k B l hn a m st me lo fa nx du ch hf hx0 hm now W (hr.below (hW.mono hB)) (by have := hW.size; omega) hnk hk hl ha hx hy)
  have yc := ((Blk.new w 24 #[.int .i64 p, .int .i64 j, .int .i64 t, .int .i64 h, .int .i64 g, .int .i64 q, .int .i64 s, .int .i64 cp, .slice A n k]).alloc (.cells #[.int .u32 a, .int .i64 m, .int .i64 st, .int .i64 me, .int .i64 lo, .int .i64 fa, .int .u32 nx, .int .i64 du, .bool ch] 31)).alloc (.cells #[.int .i64 hf, .int .u32 hx0, .int .i64 hm] 33)
  have yr := (Blk.new (w.alloc (.cells #[.int .i64 p, .int .i64 j, .int .i64 t, .int .i64 h, .int .i64 g, .int .i64 q, .int .i64 s, .int .i64 cp, .slice A n k] 24)) 31 #[.int .u32 a, .int .i64 m, .int .i64 st, .int .i64 me, .int .i64 lo, .int .i64 fa, .int .u32 nx, .int .i64 du, .bool ch]).alloc (.cells #[.int .i64 hf, .int .u32 hx0, .int .i64 hm] 33)
  have yh := Blk.new ((w.alloc (.cells #[.int .i64 p, .int .i64 j, .int .i64 t, .int .i64 h, .int .i64 g, .int .i64 q, .int .i64 s, .int .i64 cp, .slice A n k] 24)).alloc (.cells #[.int .u32 a, .int .i64 m, .int .i64 st, .int .i64 me, .int .i64 lo, .int .i64 fa, .int .u32 nx, .int .i64 du, .bool ch] 31)) 33 #[.int .i64 hf, .int .u32 hx0, .int .i64 hm]
  simp only [World.size_alloc] at yr yh
  have BB : Below w.heap.size w (((w.alloc (.cells #[.int .i64 p, .int .i64 j, .int .i64 t, .int .i64 h, .int .i64 g, .int .i64 q, .int .i64 s, .int .i64 cp, .slice A n k] 24)).alloc (.cells #[.int .u32 a, .int .i64 m, .int .i64 st, .int .i64 me, .int .i64 lo, .int .i64 fa, .int .u32 nx, .int .i64 du, .bool ch] 31)).alloc (.cells #[.int .i64 hf, .int .u32 hx0, .int .i64 hm] 33)) := balloc (balloc (balloc (Below.refl _ _) _) _) _
  by_cases h20 : n ≤ 20
  case neg =>
    have Y := Lib.hid BB
    clear yc yr yh BB hr hl hw hn ha hx hy
    go_enter Tryd.func3, Tryd.ntmps3
    go_wp2_with fail
    refine (HF.out _).mono ?_
    rintro e w1 ⟨rfl, b1⟩
    rw [decide_eq_false (by omega : ¬ (n : Int) ≤ 20)]
    have BB := bnext Y.out b1
    go_wp2_with fail
    refine (HW.out _ BB).mono ?_
    rintro e w2 ⟨rfl, b2⟩
    go_wp2_with fail
    go_ret
    exact ⟨rfl, bnext BB b2⟩
  have HRR := Lib.hid (fun W q1 q2 q3 q4 q5 => rhear_any p j t h g q s cp A n k a m st me lo fa nx du ch hf hx0 hm now W q1 q2 q3 q4 q5)
  have hbd := Lib.hid (fun hok => okC_bounds (p := p) (j := j) (t := t) (h := h) (g := g) (q := q) (s := s) (cp := cp) (l := l) hok)
  have Y := Lib.hid (And.intro yc (And.intro yr (And.intro yh BB)))
  clear yc yr yh BB
  clear hr hl hw hn ha hx hy
  rcases askR_cases (okC p j t h g q s cp l && okR a m st me lo fa nx du ch && okH hf hx0 hm) now with ⟨e1, e2⟩ | ⟨e1, e2, e3⟩ | ⟨e1, e2, e3⟩
  · rw [e1] at HH HA
    rw [show outR 2 (hearR t h ⟨a, m, st, me, lo, fa, nx, du, ch⟩ hf hx0 hm now) = rz from if_neg (by decide)] at HH
    replace HH : Hid (∀ W (hW : Below w.heap.size w W), Calls Tryd.prog 10 #[.agg #[.int .i64 p, .int .i64 j, .int .i64 t, .int .i64 h, .int .i64 g, .int .i64 q, .int .i64 s, .int .i64 cp, .slice A n k], .agg #[.int .u32 a, .int .i64 m, .int .i64 st, .int .i64 me, .int .i64 lo, .int .i64 fa, .int .u32 nx, .int .i64 du, .bool ch], .agg #[.int .i64 hf, .int .u32 hx0, .int .i64 hm], .int .i64 now] W fun e w' => e = .returned (.tuple #[.agg #[.int .u32 0, .int .i64 0, .int .i64 0, .int .i64 0, .int .i64 0, .int .i64 0, .int .u32 0, .int .i64 0, .bool false], .int .i64 2]) ∧ Below W.heap.size W w') := Lib.hid (fun W hW => HH.out W hW)
    have heq := fun W => eq_self 0 0 0 0 0 0 0 0 false W
    have HE := Lib.hid (And.intro e1 e2)
    clear e1 e2
    go_enter Tryd.func3, Tryd.ntmps3
    go_wp2_with fail
    refine (HF.out _).mono ?_
    rintro e w1 ⟨rfl, b1⟩
    rw [decide_eq_true (by omega : (n : Int) ≤ 20)]
    obtain ⟨yc, yr, yh, BB⟩ := Y.out
    replace yc := yc.below b1 yc.lt
    replace yr := yr.below b1 yr.lt
    replace yh := yh.below b1 yh.lt
    replace BB := bnext BB b1
    clear b1
    have c0 := (yr).cell 0
    have c1 := (yr).cell 1
    have c2 := (yr).cell 2
    have c3 := (yr).cell 3
    have c4 := (yr).cell 4
    have c5 := (yr).cell 5
    have c6 := (yr).cell 6
    have c7 := (yr).cell 7
    have c8 := (yr).cell 8
    simp only [List.getElem?_toArray, List.getElem?_cons_zero, List.getElem?_cons_succ] at c0 c1 c2 c3 c4 c5 c6 c7 c8
    have k0 := (yc).cell 0
    have k1 := (yc).cell 1
    have k2 := (yc).cell 2
    have k3 := (yc).cell 3
    have k4 := (yc).cell 4
    have k5 := (yc).cell 5
    have k6 := (yc).cell 6
    have k7 := (yc).cell 7
    have k8 := (yc).cell 8
    simp only [List.getElem?_toArray, List.getElem?_cons_zero, List.getElem?_cons_succ] at k0 k1 k2 k3 k4 k5 k6 k7 k8
    have e0 := (yh).cell 0
    have e1 := (yh).cell 1
    have e2 := (yh).cell 2
    simp only [List.getElem?_toArray, List.getElem?_cons_zero, List.getElem?_cons_succ] at e0 e1 e2
    have Y2 := Lib.hid (And.intro yc (And.intro yr (And.intro yh BB)))
    have HHc := HH.out _ BB
    clear yc yr yh BB
    go_wp2_with fail
    refine HHc.mono ?_
    rintro e w2 ⟨rfl, b2⟩
    obtain ⟨yc, yr, yh, BB⟩ := Y2.out
    clear c0 c1 c2 c3 c4 c5 c6 c7 c8 k0 k1 k2 k3 k4 k5 k6 k7 k8 e0 e1 e2
    replace yc := yc.below b2 yc.lt
    replace yr := yr.below b2 yr.lt
    replace yh := yh.below b2 yh.lt
    replace BB := bnext BB b2
    have yx := Blk.new w2 31 #[.int .u32 0, .int .i64 0, .int .i64 0, .int .i64 0, .int .i64 0, .int .i64 0, .int .u32 0, .int .i64 0, .bool false]
    replace yc := yc.alloc (.cells #[.int .u32 0, .int .i64 0, .int .i64 0, .int .i64 0, .int .i64 0, .int .i64 0, .int .u32 0, .int .i64 0, .bool false] 31)
    replace yr := yr.alloc (.cells #[.int .u32 0, .int .i64 0, .int .i64 0, .int .i64 0, .int .i64 0, .int .i64 0, .int .u32 0, .int .i64 0, .bool false] 31)
    replace yh := yh.alloc (.cells #[.int .u32 0, .int .i64 0, .int .i64 0, .int .i64 0, .int .i64 0, .int .i64 0, .int .u32 0, .int .i64 0, .bool false] 31)
    replace BB := balloc BB (.cells #[.int .u32 0, .int .i64 0, .int .i64 0, .int .i64 0, .int .i64 0, .int .i64 0, .int .u32 0, .int .i64 0, .bool false] 31)
    clear b2
    have c0 := (yr).cell 0
    have c1 := (yr).cell 1
    have c2 := (yr).cell 2
    have c3 := (yr).cell 3
    have c4 := (yr).cell 4
    have c5 := (yr).cell 5
    have c6 := (yr).cell 6
    have c7 := (yr).cell 7
    have c8 := (yr).cell 8
    simp only [List.getElem?_toArray, List.getElem?_cons_zero, List.getElem?_cons_succ] at c0 c1 c2 c3 c4 c5 c6 c7 c8
    have k0 := (yc).cell 0
    have k1 := (yc).cell 1
    have k2 := (yc).cell 2
    have k3 := (yc).cell 3
    have k4 := (yc).cell 4
    have k5 := (yc).cell 5
    have k6 := (yc).cell 6
    have k7 := (yc).cell 7
    have k8 := (yc).cell 8
    simp only [List.getElem?_toArray, List.getElem?_cons_zero, List.getElem?_cons_succ] at k0 k1 k2 k3 k4 k5 k6 k7 k8
    have e0 := (yh).cell 0
    have e1 := (yh).cell 1
    have e2 := (yh).cell 2
    simp only [List.getElem?_toArray, List.getElem?_cons_zero, List.getElem?_cons_succ] at e0 e1 e2
    have HAc := HA.out _ BB
    have Y3 := Lib.hid (And.intro yx BB)
    clear yc yr yh BB yx
    go_wp2_with fail
    refine HAc.mono ?_
    rintro e w3 ⟨rfl, b3⟩
    obtain ⟨yx, BB⟩ := Y3.out
    clear c0 c1 c2 c3 c4 c5 c6 c7 c8 k0 k1 k2 k3 k4 k5 k6 k7 k8 e0 e1 e2
    replace yx := yx.below b3 yx.lt
    replace BB := bnext BB b3
    clear b3
    have c0 := (yx).cell 0
    have c1 := (yx).cell 1
    have c2 := (yx).cell 2
    have c3 := (yx).cell 3
    have c4 := (yx).cell 4
    have c5 := (yx).cell 5
    have c6 := (yx).cell 6
    have c7 := (yx).cell 7
    have c8 := (yx).cell 8
    simp only [List.getElem?_toArray, List.getElem?_cons_zero, List.getElem?_cons_succ] at c0 c1 c2 c3 c4 c5 c6 c7 c8
    have HWc := HW.out _ BB
    clear yx
    go_wp2_with (first | (go_at_call 12; refine (num_any _ _).mono ?_; rintro e wn ⟨rfl, rfl⟩) | (go_at_call 9; refine HWc.mono ?_; rintro e w4 ⟨rfl, b4⟩))
    go_ret
    exact ⟨rfl, bnext BB b4⟩
  · rw [e1] at HH HA
    rw [show outR 170 (hearR t h ⟨a, m, st, me, lo, fa, nx, du, ch⟩ hf hx0 hm now) = rz from if_neg (by decide)] at HH
    replace HH : Hid (∀ W (hW : Below w.heap.size w W), Calls Tryd.prog 10 #[.agg #[.int .i64 p, .int .i64 j, .int .i64 t, .int .i64 h, .int .i64 g, .int .i64 q, .int .i64 s, .int .i64 cp, .slice A n k], .agg #[.int .u32 a, .int .i64 m, .int .i64 st, .int .i64 me, .int .i64 lo, .int .i64 fa, .int .u32 nx, .int .i64 du, .bool ch], .agg #[.int .i64 hf, .int .u32 hx0, .int .i64 hm], .int .i64 now] W fun e w' => e = .returned (.tuple #[.agg #[.int .u32 0, .int .i64 0, .int .i64 0, .int .i64 0, .int .i64 0, .int .i64 0, .int .u32 0, .int .i64 0, .bool false], .int .i64 170]) ∧ Below W.heap.size W w') := Lib.hid (fun W hW => HH.out W hW)
    have heq := fun W => eq_self 0 0 0 0 0 0 0 0 false W
    have HE := Lib.hid (And.intro e1 (And.intro e2 e3))
    clear e1 e2 e3
    go_enter Tryd.func3, Tryd.ntmps3
    go_wp2_with fail
    refine (HF.out _).mono ?_
    rintro e w1 ⟨rfl, b1⟩
    rw [decide_eq_true (by omega : (n : Int) ≤ 20)]
    obtain ⟨yc, yr, yh, BB⟩ := Y.out
    replace yc := yc.below b1 yc.lt
    replace yr := yr.below b1 yr.lt
    replace yh := yh.below b1 yh.lt
    replace BB := bnext BB b1
    clear b1
    have c0 := (yr).cell 0
    have c1 := (yr).cell 1
    have c2 := (yr).cell 2
    have c3 := (yr).cell 3
    have c4 := (yr).cell 4
    have c5 := (yr).cell 5
    have c6 := (yr).cell 6
    have c7 := (yr).cell 7
    have c8 := (yr).cell 8
    simp only [List.getElem?_toArray, List.getElem?_cons_zero, List.getElem?_cons_succ] at c0 c1 c2 c3 c4 c5 c6 c7 c8
    have k0 := (yc).cell 0
    have k1 := (yc).cell 1
    have k2 := (yc).cell 2
    have k3 := (yc).cell 3
    have k4 := (yc).cell 4
    have k5 := (yc).cell 5
    have k6 := (yc).cell 6
    have k7 := (yc).cell 7
    have k8 := (yc).cell 8
    simp only [List.getElem?_toArray, List.getElem?_cons_zero, List.getElem?_cons_succ] at k0 k1 k2 k3 k4 k5 k6 k7 k8
    have e0 := (yh).cell 0
    have e1 := (yh).cell 1
    have e2 := (yh).cell 2
    simp only [List.getElem?_toArray, List.getElem?_cons_zero, List.getElem?_cons_succ] at e0 e1 e2
    have Y2 := Lib.hid (And.intro yc (And.intro yr (And.intro yh BB)))
    have HHc := HH.out _ BB
    clear yc yr yh BB
    go_wp2_with fail
    refine HHc.mono ?_
    rintro e w2 ⟨rfl, b2⟩
    obtain ⟨yc, yr, yh, BB⟩ := Y2.out
    clear c0 c1 c2 c3 c4 c5 c6 c7 c8 k0 k1 k2 k3 k4 k5 k6 k7 k8 e0 e1 e2
    replace yc := yc.below b2 yc.lt
    replace yr := yr.below b2 yr.lt
    replace yh := yh.below b2 yh.lt
    replace BB := bnext BB b2
    have yx := Blk.new w2 31 #[.int .u32 0, .int .i64 0, .int .i64 0, .int .i64 0, .int .i64 0, .int .i64 0, .int .u32 0, .int .i64 0, .bool false]
    replace yc := yc.alloc (.cells #[.int .u32 0, .int .i64 0, .int .i64 0, .int .i64 0, .int .i64 0, .int .i64 0, .int .u32 0, .int .i64 0, .bool false] 31)
    replace yr := yr.alloc (.cells #[.int .u32 0, .int .i64 0, .int .i64 0, .int .i64 0, .int .i64 0, .int .i64 0, .int .u32 0, .int .i64 0, .bool false] 31)
    replace yh := yh.alloc (.cells #[.int .u32 0, .int .i64 0, .int .i64 0, .int .i64 0, .int .i64 0, .int .i64 0, .int .u32 0, .int .i64 0, .bool false] 31)
    replace BB := balloc BB (.cells #[.int .u32 0, .int .i64 0, .int .i64 0, .int .i64 0, .int .i64 0, .int .i64 0, .int .u32 0, .int .i64 0, .bool false] 31)
    clear b2
    have c0 := (yr).cell 0
    have c1 := (yr).cell 1
    have c2 := (yr).cell 2
    have c3 := (yr).cell 3
    have c4 := (yr).cell 4
    have c5 := (yr).cell 5
    have c6 := (yr).cell 6
    have c7 := (yr).cell 7
    have c8 := (yr).cell 8
    simp only [List.getElem?_toArray, List.getElem?_cons_zero, List.getElem?_cons_succ] at c0 c1 c2 c3 c4 c5 c6 c7 c8
    have k0 := (yc).cell 0
    have k1 := (yc).cell 1
    have k2 := (yc).cell 2
    have k3 := (yc).cell 3
    have k4 := (yc).cell 4
    have k5 := (yc).cell 5
    have k6 := (yc).cell 6
    have k7 := (yc).cell 7
    have k8 := (yc).cell 8
    simp only [List.getElem?_toArray, List.getElem?_cons_zero, List.getElem?_cons_succ] at k0 k1 k2 k3 k4 k5 k6 k7 k8
    have e0 := (yh).cell 0
    have e1 := (yh).cell 1
    have e2 := (yh).cell 2
    simp only [List.getElem?_toArray, List.getElem?_cons_zero, List.getElem?_cons_succ] at e0 e1 e2
    have HAc := HA.out _ BB
    have Y3 := Lib.hid (And.intro yx BB)
    clear yc yr yh BB yx
    go_wp2_with fail
    refine HAc.mono ?_
    rintro e w3 ⟨rfl, b3⟩
    obtain ⟨yx, BB⟩ := Y3.out
    clear c0 c1 c2 c3 c4 c5 c6 c7 c8 k0 k1 k2 k3 k4 k5 k6 k7 k8 e0 e1 e2
    replace yx := yx.below b3 yx.lt
    replace BB := bnext BB b3
    clear b3
    have c0 := (yx).cell 0
    have c1 := (yx).cell 1
    have c2 := (yx).cell 2
    have c3 := (yx).cell 3
    have c4 := (yx).cell 4
    have c5 := (yx).cell 5
    have c6 := (yx).cell 6
    have c7 := (yx).cell 7
    have c8 := (yx).cell 8
    simp only [List.getElem?_toArray, List.getElem?_cons_zero, List.getElem?_cons_succ] at c0 c1 c2 c3 c4 c5 c6 c7 c8
    have HWc := HW.out _ BB
    clear yx
    go_wp2_with (first | (go_at_call 12; refine (num_any _ _).mono ?_; rintro e wn ⟨rfl, rfl⟩) | (go_at_call 9; refine HWc.mono ?_; rintro e w4 ⟨rfl, b4⟩))
    go_ret
    exact ⟨rfl, bnext BB b4⟩
  · rw [e1] at HH HA
    have q12 := Bool.and_eq_true_iff.1 e2
    have q1 := (Bool.and_eq_true_iff.1 q12.1)
    have hbb := hbd.out q1.1
    have hst : 0 ≤ st ∧ st ≤ 4 := Classical.byContradiction fun hc => by
      have := okR_st a m st me lo fa nx du ch hc
      rw [this] at q1
      exact absurd q1.2 (by decide)
    have hT2 : 0 ≤ now ∧ now ≤ 4611686018426387904 := of_decide_eq_true e3
    have hm2 : 1 ≤ hm ∧ hm ≤ 16 := of_decide_eq_true (Bool.and_eq_true_iff.1 q12.2).2
    have HR1 := Lib.hid (fun W => HRR.out W hst hm2.1 hm2.2 (IntWalk.i64_in _ ⟨by omega, by omega⟩) (IntWalk.i64_in _ ⟨by omega, by omega⟩))
    clear q12 q1 hbb hst hT2 hm2 e1 e2 e3 HRR hbd
    obtain ⟨⟨a1, m1, st1, me1, lo1, fa1, nx1, du1, ch1⟩, hr1⟩ : ∃ r1, r1 = hearR t h ⟨a, m, st, me, lo, fa, nx, du, ch⟩ hf hx0 hm now := ⟨_, rfl⟩
    rw [show outR 0 (hearR t h ⟨a, m, st, me, lo, fa, nx, du, ch⟩ hf hx0 hm now) = hearR t h ⟨a, m, st, me, lo, fa, nx, du, ch⟩ hf hx0 hm now from if_pos rfl, ← hr1] at HH
    rw [← hr1] at HR1
    have HR2 : Hid (∀ W, Calls Tryd.prog 13 #[.agg #[.int .i64 p, .int .i64 j, .int .i64 t, .int .i64 h, .int .i64 g, .int .i64 q, .int .i64 s, .int .i64 cp, .slice A n k], .agg #[.int .u32 a, .int .i64 m, .int .i64 st, .int .i64 me, .int .i64 lo, .int .i64 fa, .int .u32 nx, .int .i64 du, .bool ch], .agg #[.int .i64 hf, .int .u32 hx0, .int .i64 hm], .int .i64 now] W fun e w' => e = .returned (.agg #[.int .u32 a1, .int .i64 m1, .int .i64 st1, .int .i64 me1, .int .i64 lo1, .int .i64 fa1, .int .u32 nx1, .int .i64 du1, .bool ch1]) ∧ Below W.heap.size W w') := Lib.hid (fun W => (HR1.out W).mono (by rintro e w' ⟨⟨r, rfl, rfl⟩, b⟩; exact ⟨rfl, b⟩))
    clear hr1 HR1
    have heq := fun W => eq_self a1 m1 st1 me1 lo1 fa1 nx1 du1 ch1 W
    go_enter Tryd.func3, Tryd.ntmps3
    go_wp2_with fail
    refine (HF.out _).mono ?_
    rintro e w1 ⟨rfl, b1⟩
    rw [decide_eq_true (by omega : (n : Int) ≤ 20)]
    obtain ⟨yc, yr, yh, BB⟩ := Y.out
    replace yc := yc.below b1 yc.lt
    replace yr := yr.below b1 yr.lt
    replace yh := yh.below b1 yh.lt
    replace BB := bnext BB b1
    clear b1
    have c0 := (yr).cell 0
    have c1 := (yr).cell 1
    have c2 := (yr).cell 2
    have c3 := (yr).cell 3
    have c4 := (yr).cell 4
    have c5 := (yr).cell 5
    have c6 := (yr).cell 6
    have c7 := (yr).cell 7
    have c8 := (yr).cell 8
    simp only [List.getElem?_toArray, List.getElem?_cons_zero, List.getElem?_cons_succ] at c0 c1 c2 c3 c4 c5 c6 c7 c8
    have k0 := (yc).cell 0
    have k1 := (yc).cell 1
    have k2 := (yc).cell 2
    have k3 := (yc).cell 3
    have k4 := (yc).cell 4
    have k5 := (yc).cell 5
    have k6 := (yc).cell 6
    have k7 := (yc).cell 7
    have k8 := (yc).cell 8
    simp only [List.getElem?_toArray, List.getElem?_cons_zero, List.getElem?_cons_succ] at k0 k1 k2 k3 k4 k5 k6 k7 k8
    have e0 := (yh).cell 0
    have e1 := (yh).cell 1
    have e2 := (yh).cell 2
    simp only [List.getElem?_toArray, List.getElem?_cons_zero, List.getElem?_cons_succ] at e0 e1 e2
    have Y2 := Lib.hid (And.intro yc (And.intro yr (And.intro yh BB)))
    have HHc := HH.out _ BB
    clear yc yr yh BB
    go_wp2_with fail
    refine HHc.mono ?_
    rintro e w2 ⟨rfl, b2⟩
    obtain ⟨yc, yr, yh, BB⟩ := Y2.out
    clear c0 c1 c2 c3 c4 c5 c6 c7 c8 k0 k1 k2 k3 k4 k5 k6 k7 k8 e0 e1 e2
    replace yc := yc.below b2 yc.lt
    replace yr := yr.below b2 yr.lt
    replace yh := yh.below b2 yh.lt
    replace BB := bnext BB b2
    have yx := Blk.new w2 31 #[.int .u32 a1, .int .i64 m1, .int .i64 st1, .int .i64 me1, .int .i64 lo1, .int .i64 fa1, .int .u32 nx1, .int .i64 du1, .bool ch1]
    replace yc := yc.alloc (.cells #[.int .u32 a1, .int .i64 m1, .int .i64 st1, .int .i64 me1, .int .i64 lo1, .int .i64 fa1, .int .u32 nx1, .int .i64 du1, .bool ch1] 31)
    replace yr := yr.alloc (.cells #[.int .u32 a1, .int .i64 m1, .int .i64 st1, .int .i64 me1, .int .i64 lo1, .int .i64 fa1, .int .u32 nx1, .int .i64 du1, .bool ch1] 31)
    replace yh := yh.alloc (.cells #[.int .u32 a1, .int .i64 m1, .int .i64 st1, .int .i64 me1, .int .i64 lo1, .int .i64 fa1, .int .u32 nx1, .int .i64 du1, .bool ch1] 31)
    replace BB := balloc BB (.cells #[.int .u32 a1, .int .i64 m1, .int .i64 st1, .int .i64 me1, .int .i64 lo1, .int .i64 fa1, .int .u32 nx1, .int .i64 du1, .bool ch1] 31)
    clear b2
    have c0 := (yr).cell 0
    have c1 := (yr).cell 1
    have c2 := (yr).cell 2
    have c3 := (yr).cell 3
    have c4 := (yr).cell 4
    have c5 := (yr).cell 5
    have c6 := (yr).cell 6
    have c7 := (yr).cell 7
    have c8 := (yr).cell 8
    simp only [List.getElem?_toArray, List.getElem?_cons_zero, List.getElem?_cons_succ] at c0 c1 c2 c3 c4 c5 c6 c7 c8
    have k0 := (yc).cell 0
    have k1 := (yc).cell 1
    have k2 := (yc).cell 2
    have k3 := (yc).cell 3
    have k4 := (yc).cell 4
    have k5 := (yc).cell 5
    have k6 := (yc).cell 6
    have k7 := (yc).cell 7
    have k8 := (yc).cell 8
    simp only [List.getElem?_toArray, List.getElem?_cons_zero, List.getElem?_cons_succ] at k0 k1 k2 k3 k4 k5 k6 k7 k8
    have e0 := (yh).cell 0
    have e1 := (yh).cell 1
    have e2 := (yh).cell 2
    simp only [List.getElem?_toArray, List.getElem?_cons_zero, List.getElem?_cons_succ] at e0 e1 e2
    have HAc := HA.out _ BB
    have Y3 := Lib.hid (And.intro yx (And.intro yc (And.intro yr (And.intro yh BB))))
    clear yc yr yh BB yx
    go_wp2_with fail
    refine HAc.mono ?_
    rintro e w3 ⟨rfl, b3⟩
    obtain ⟨yx, yc, yr, yh, BB⟩ := Y3.out
    clear c0 c1 c2 c3 c4 c5 c6 c7 c8 k0 k1 k2 k3 k4 k5 k6 k7 k8 e0 e1 e2
    replace yx := yx.below b3 yx.lt
    replace yc := yc.below b3 yc.lt
    replace yr := yr.below b3 yr.lt
    replace yh := yh.below b3 yh.lt
    replace BB := bnext BB b3
    clear b3
    have c0 := fun v : Sub w3 => ((yr).below v.2 (yr).lt).cell 0
    have c1 := fun v : Sub w3 => ((yr).below v.2 (yr).lt).cell 1
    have c2 := fun v : Sub w3 => ((yr).below v.2 (yr).lt).cell 2
    have c3 := fun v : Sub w3 => ((yr).below v.2 (yr).lt).cell 3
    have c4 := fun v : Sub w3 => ((yr).below v.2 (yr).lt).cell 4
    have c5 := fun v : Sub w3 => ((yr).below v.2 (yr).lt).cell 5
    have c6 := fun v : Sub w3 => ((yr).below v.2 (yr).lt).cell 6
    have c7 := fun v : Sub w3 => ((yr).below v.2 (yr).lt).cell 7
    have c8 := fun v : Sub w3 => ((yr).below v.2 (yr).lt).cell 8
    simp only [List.getElem?_toArray, List.getElem?_cons_zero, List.getElem?_cons_succ] at c0 c1 c2 c3 c4 c5 c6 c7 c8
    have k0 := fun v : Sub w3 => ((yc).below v.2 (yc).lt).cell 0
    have k1 := fun v : Sub w3 => ((yc).below v.2 (yc).lt).cell 1
    have k2 := fun v : Sub w3 => ((yc).below v.2 (yc).lt).cell 2
    have k3 := fun v : Sub w3 => ((yc).below v.2 (yc).lt).cell 3
    have k4 := fun v : Sub w3 => ((yc).below v.2 (yc).lt).cell 4
    have k5 := fun v : Sub w3 => ((yc).below v.2 (yc).lt).cell 5
    have k6 := fun v : Sub w3 => ((yc).below v.2 (yc).lt).cell 6
    have k7 := fun v : Sub w3 => ((yc).below v.2 (yc).lt).cell 7
    have k8 := fun v : Sub w3 => ((yc).below v.2 (yc).lt).cell 8
    simp only [List.getElem?_toArray, List.getElem?_cons_zero, List.getElem?_cons_succ] at k0 k1 k2 k3 k4 k5 k6 k7 k8
    have e0 := fun v : Sub w3 => ((yh).below v.2 (yh).lt).cell 0
    have e1 := fun v : Sub w3 => ((yh).below v.2 (yh).lt).cell 1
    have e2 := fun v : Sub w3 => ((yh).below v.2 (yh).lt).cell 2
    simp only [List.getElem?_toArray, List.getElem?_cons_zero, List.getElem?_cons_succ] at e0 e1 e2
    have x0 := fun v : Sub w3 => ((yx).below v.2 (yx).lt).cell 0
    have x1 := fun v : Sub w3 => ((yx).below v.2 (yx).lt).cell 1
    have x2 := fun v : Sub w3 => ((yx).below v.2 (yx).lt).cell 2
    have x3 := fun v : Sub w3 => ((yx).below v.2 (yx).lt).cell 3
    have x4 := fun v : Sub w3 => ((yx).below v.2 (yx).lt).cell 4
    have x5 := fun v : Sub w3 => ((yx).below v.2 (yx).lt).cell 5
    have x6 := fun v : Sub w3 => ((yx).below v.2 (yx).lt).cell 6
    have x7 := fun v : Sub w3 => ((yx).below v.2 (yx).lt).cell 7
    have x8 := fun v : Sub w3 => ((yx).below v.2 (yx).lt).cell 8
    simp only [List.getElem?_toArray, List.getElem?_cons_zero, List.getElem?_cons_succ] at x0 x1 x2 x3 x4 x5 x6 x7 x8
    have HWS := Lib.hid (fun v : Sub w3 => HW.out v.1 (bnext BB v.2))
    have hne : Nonempty (Sub w3) := ⟨⟨_, Below.refl _ _⟩⟩
    clear yx yc yr yh
    go_wp2_with fail
    refine region_sub (by kernel_rfl) (by kernel_rfl) ?_
    repeat (first | go_big_quiet_step ((first | (go_at_call 13; exact sub_below (HR2.out _)) | (go_at_call 12; exact sub_same (num_any _ _)) | (go_at_call 9; exact sub_below (HWS.out _)))) | quiet_step ((first | (go_at_call 13; exact sub_below (HR2.out _)) | (go_at_call 12; exact sub_same (num_any _ _)) | (go_at_call 9; exact sub_below (HWS.out _)))))
    refine wpQuiet_nil ?_
    rintro _ ⟨v, rfl⟩
    clear c0 c1 c2 c3 c4 c5 c6 c7 c8 k0 k1 k2 k3 k4 k5 k6 k7 k8 e0 e1 e2 x0 x1 x2 x3 x4 x5 x6 x7 x8
    go_wp2_with fail
    go_ret
    exact ⟨rfl, bnext BB v.2⟩
end Go.Proofs.YtgjeejdebneoaaaDoor
