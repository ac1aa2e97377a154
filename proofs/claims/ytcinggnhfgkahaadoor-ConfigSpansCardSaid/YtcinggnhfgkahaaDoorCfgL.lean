/- ConfigWaits, ConfigBound, ConfigHolds: the walks. -/
import Derived.Test.YtcinggnhfgkahaaDoorCfgW
namespace Go.Proofs.YtcinggnhfgkahaaDoor
set_option linter.unusedVariables false
set_option linter.unusedSimpArgs false
open Go.RowKit
set_option maxRecDepth 100000

theorem few_any (p j t h g q s cp : Int) (A : Option Addr) (n k : Nat) (w : World) :
    Calls Tryd.prog 8 #[.agg #[.int .i64 p, .int .i64 j, .int .i64 t, .int .i64 h, .int .i64 g, .int .i64 q, .int .i64 s, .int .i64 cp, .slice A n k]] w fun e w' => e = .returned (.bool (decide (n ≤ 30))) ∧ Below w.heap.size w w' := by
  go_enter Tryd.func8, Tryd.ntmps8
  go_wp2
  go_ret
  exact ⟨ret_bool (by rw [decide_eq_decide]; omega), balloc (Below.refl _ _) _⟩

set_option maxHeartbeats 4000000 in
theorem configbound_walk (p j t h g q s cp : Int) (x0 : Int) (A : Option Addr) (n k : Nat) (l : List (Nat × Int)) (hn : l.length = n) (w : World) (hr : Rd w w.heap.size A (plC l)) (hnk : n ≤ k) (hk : k ≤ 9223372036854775807) (hl : ∀ x ∈ l, x.1 < 4294967296) (hw : CapsAt w)  :
    Calls Tryd.prog 5 #[.agg #[.int .i64 p, .int .i64 j, .int .i64 t, .int .i64 h, .int .i64 g, .int .i64 q, .int .i64 s, .int .i64 cp, .slice A n k], .int .i64 x0] w fun e w' => e = .returned (.bool true) ∧ Below w.heap.size w w' := by
  have HBD := Lib.hid (fun d W (hb : Below w.heap.size w W) => cbound_any p j t h g q s cp d A n k w.heap.size l hn W (hr.below hb) hb.size hnk hk hl (hw.below hb))
  have HRB := Lib.hid (fun d W (hb : Below w.heap.size w W) => rbound_any p j t h g q s cp d A n k w.heap.size l hn W (hr.below hb) hb.size hnk hk hl)
  have HWK := Lib.hid (fun W (hb : Below w.heap.size w W) => works8_any W (hw.below hb))
  have hC0 := Blk.new w 24 #[.int .i64 p, .int .i64 j, .int .i64 t, .int .i64 h, .int .i64 g, .int .i64 q, .int .i64 s, .int .i64 cp, .slice A n k]
  have hB0 : Below w.heap.size w (w.alloc (.cells #[.int .i64 p, .int .i64 j, .int .i64 t, .int .i64 h, .int .i64 g, .int .i64 q, .int .i64 s, .int .i64 cp, .slice A n k] 24)) := balloc (Below.refl _ _) _
  clear hr hl hw
  by_cases h30 : n ≤ 30
  case neg =>
    go_enter Tryd.func5, Tryd.ntmps5
    go_wp2_with fail
    refine (few_any p j t h g q s cp A n k _).mono ?_
    rintro e w1 ⟨rfl, b1⟩
    rw [decide_eq_false h30]
    have HX := Lib.hid (bnext hB0 b1)
    go_wp2_with fail
    refine (HWK.out _ HX.out).mono ?_
    rintro e w2 ⟨rfl, b2⟩
    go_wp2_with fail
    go_ret
    exact ⟨rfl, bnext HX.out b2⟩
  case pos =>
  generalize bndC (okC p j t h g q s cp l) p j t h g = bd at *
  go_enter Tryd.func5, Tryd.ntmps5
  go_wp2_with fail
  refine (few_any p j t h g q s cp A n k _).mono ?_
  rintro e w1 ⟨rfl, b1⟩
  rw [decide_eq_true h30]
  have hC := hC0.below b1 hC0.lt
  have hB := bnext hB0 b1
  clear b1
  have k0 := (hC).cell 0
  have k1 := (hC).cell 1
  have k2 := (hC).cell 2
  have k3 := (hC).cell 3
  have k4 := (hC).cell 4
  have k5 := (hC).cell 5
  have k6 := (hC).cell 6
  have k7 := (hC).cell 7
  have k8 := (hC).cell 8
  simp only [List.getElem?_toArray, List.getElem?_cons_zero, List.getElem?_cons_succ] at k0 k1 k2 k3 k4 k5 k6 k7 k8
  have HX2 := Lib.hid hB
  go_wp2_with fail
  refine (HBD.out x0 _ HX2.out).mono ?_
  rintro e w2 ⟨rfl, b2⟩
  replace hC := hC.below b2 hC.lt
  replace hB := bnext hB b2
  clear b2
  clear k0 k1 k2 k3 k4 k5 k6 k7 k8
  have k0 := (hC).cell 0
  have k1 := (hC).cell 1
  have k2 := (hC).cell 2
  have k3 := (hC).cell 3
  have k4 := (hC).cell 4
  have k5 := (hC).cell 5
  have k6 := (hC).cell 6
  have k7 := (hC).cell 7
  have k8 := (hC).cell 8
  simp only [List.getElem?_toArray, List.getElem?_cons_zero, List.getElem?_cons_succ] at k0 k1 k2 k3 k4 k5 k6 k7 k8
  clear HX2
  have HX3 := Lib.hid hB
  go_wp2_with fail
  refine (HRB.out x0 _ HX3.out).mono ?_
  rintro e w3 ⟨rfl, b3⟩
  replace hC := hC.below b3 hC.lt
  replace hB := bnext hB b3
  clear b3
  clear k0 k1 k2 k3 k4 k5 k6 k7 k8
  have k0 := (hC).cell 0
  have k1 := (hC).cell 1
  have k2 := (hC).cell 2
  have k3 := (hC).cell 3
  have k4 := (hC).cell 4
  have k5 := (hC).cell 5
  have k6 := (hC).cell 6
  have k7 := (hC).cell 7
  have k8 := (hC).cell 8
  simp only [List.getElem?_toArray, List.getElem?_cons_zero, List.getElem?_cons_succ] at k0 k1 k2 k3 k4 k5 k6 k7 k8
  clear HX3
  have hq1 : ((bd x0).1 == (bd x0).1) = true := by simp
  have hq2 : ((bd x0).2 == (bd x0).2) = true := by simp
  have HX4 := Lib.hid hB
  go_wp2_with (first | (go_at_call 10; refine (num_any _ _).mono ?_; rintro e w' ⟨rfl, rfl⟩) | (go_at_call 9; refine (HWK.out _ HX4.out).mono ?_; rintro e w4 ⟨rfl, b4⟩))
  go_ret
  exact ⟨rfl, bnext HX4.out b4⟩

set_option maxHeartbeats 4000000 in
theorem configwaits_walk (p j t h g q s cp : Int) (x0 : Int) (x1 : Int) (A : Option Addr) (n k : Nat) (l : List (Nat × Int)) (hn : l.length = n) (w : World) (hr : Rd w w.heap.size A (plC l)) (hnk : n ≤ k) (hk : k ≤ 9223372036854775807) (hl : ∀ x ∈ l, x.1 < 4294967296) (hw : CapsAt w)  :
    Calls Tryd.prog 4 #[.agg #[.int .i64 p, .int .i64 j, .int .i64 t, .int .i64 h, .int .i64 g, .int .i64 q, .int .i64 s, .int .i64 cp, .slice A n k], .int .i64 x0, .int .i64 x1] w fun e w' => e = .returned (.bool true) ∧ Below w.heap.size w w' := by
  have HWT := Lib.hid (fun d W (hb : Below w.heap.size w W) => cwait_any p j t h g q s cp d A n k w.heap.size l hn W (hr.below hb) hb.size hnk hk hl (hw.below hb))
  have HQT := Lib.hid (fun d W (hb : Below w.heap.size w W) => cquiet_any p j t h g q s cp d A n k w.heap.size l hn W (hr.below hb) hb.size hnk hk hl (hw.below hb))
  have HRR := Lib.hid (fun W (hb : Below w.heap.size w W) => right8_any p j t h g q s cp  A n k w.heap.size l hn W (hr.below hb) hb.size hnk hk hl)
  have HWK := Lib.hid (fun W (hb : Below w.heap.size w W) => works8_any W (hw.below hb))
  have hC0 := Blk.new w 24 #[.int .i64 p, .int .i64 j, .int .i64 t, .int .i64 h, .int .i64 g, .int .i64 q, .int .i64 s, .int .i64 cp, .slice A n k]
  have hB0 : Below w.heap.size w (w.alloc (.cells #[.int .i64 p, .int .i64 j, .int .i64 t, .int .i64 h, .int .i64 g, .int .i64 q, .int .i64 s, .int .i64 cp, .slice A n k] 24)) := balloc (Below.refl _ _) _
  have hbd := okC_bounds (p := p) (j := j) (t := t) (h := h) (g := g) (q := q) (s := s) (cp := cp) (l := l)
  clear hr hl hw
  by_cases h30 : n ≤ 30
  case neg =>
    go_enter Tryd.func4, Tryd.ntmps4
    go_wp2_with fail
    refine (few_any p j t h g q s cp A n k _).mono ?_
    rintro e w1 ⟨rfl, b1⟩
    rw [decide_eq_false h30]
    have HX := Lib.hid (bnext hB0 b1)
    go_wp2_with fail
    refine (HWK.out _ HX.out).mono ?_
    rintro e w2 ⟨rfl, b2⟩
    go_wp2_with fail
    go_ret
    exact ⟨rfl, bnext HX.out b2⟩
  case pos =>
  generalize okC p j t h g q s cp l = ok at *
  have HRW := Lib.hid (fun (hp : 0 ≤ p ∧ p ≤ 1000000) (hj : 0 ≤ j ∧ j ≤ 1000000) d W => rwait_any p j t h g q s cp d A n k W hp hj)
  have HRQ := Lib.hid (fun (hp : 0 ≤ q ∧ q ≤ 1000000) (hj : 0 ≤ s ∧ s ≤ 1000000) d W => rquiet_any p j t h g q s cp d A n k W hp hj)
  cases ok
  · clear hbd HRW HRQ
    simp only [waitC, errC, Bool.false_eq_true, if_false] at HWT HQT
    go_enter Tryd.func4, Tryd.ntmps4
    go_wp2_with fail
    refine (few_any p j t h g q s cp A n k _).mono ?_
    rintro e w1 ⟨rfl, b1⟩
    rw [decide_eq_true h30]
    have hC := hC0.below b1 hC0.lt
    have hB := bnext hB0 b1
    clear b1
    have k0 := (hC).cell 0
    have k1 := (hC).cell 1
    have k2 := (hC).cell 2
    have k3 := (hC).cell 3
    have k4 := (hC).cell 4
    have k5 := (hC).cell 5
    have k6 := (hC).cell 6
    have k7 := (hC).cell 7
    have k8 := (hC).cell 8
    simp only [List.getElem?_toArray, List.getElem?_cons_zero, List.getElem?_cons_succ] at k0 k1 k2 k3 k4 k5 k6 k7 k8
    have HX2 := Lib.hid hB
    go_wp2_with fail
    refine (HWT.out x0 _ HX2.out).mono ?_
    rintro e w2 ⟨rfl, b2⟩
    replace hC := hC.below b2 hC.lt
    replace hB := bnext hB b2
    clear b2
    clear k0 k1 k2 k3 k4 k5 k6 k7 k8
    have k0 := (hC).cell 0
    have k1 := (hC).cell 1
    have k2 := (hC).cell 2
    have k3 := (hC).cell 3
    have k4 := (hC).cell 4
    have k5 := (hC).cell 5
    have k6 := (hC).cell 6
    have k7 := (hC).cell 7
    have k8 := (hC).cell 8
    simp only [List.getElem?_toArray, List.getElem?_cons_zero, List.getElem?_cons_succ] at k0 k1 k2 k3 k4 k5 k6 k7 k8
    clear HX2
    have HX3 := Lib.hid hB
    go_wp2_with fail
    refine (HQT.out x0 _ HX3.out).mono ?_
    rintro e w3 ⟨rfl, b3⟩
    replace hC := hC.below b3 hC.lt
    replace hB := bnext hB b3
    clear b3
    clear k0 k1 k2 k3 k4 k5 k6 k7 k8
    have k0 := (hC).cell 0
    have k1 := (hC).cell 1
    have k2 := (hC).cell 2
    have k3 := (hC).cell 3
    have k4 := (hC).cell 4
    have k5 := (hC).cell 5
    have k6 := (hC).cell 6
    have k7 := (hC).cell 7
    have k8 := (hC).cell 8
    simp only [List.getElem?_toArray, List.getElem?_cons_zero, List.getElem?_cons_succ] at k0 k1 k2 k3 k4 k5 k6 k7 k8
    clear HX3
    have HX4 := Lib.hid hB
    go_wp2_with fail
    refine (HWT.out x1 _ HX4.out).mono ?_
    rintro e w4 ⟨rfl, b4⟩
    replace hC := hC.below b4 hC.lt
    replace hB := bnext hB b4
    clear b4
    clear k0 k1 k2 k3 k4 k5 k6 k7 k8
    have k0 := (hC).cell 0
    have k1 := (hC).cell 1
    have k2 := (hC).cell 2
    have k3 := (hC).cell 3
    have k4 := (hC).cell 4
    have k5 := (hC).cell 5
    have k6 := (hC).cell 6
    have k7 := (hC).cell 7
    have k8 := (hC).cell 8
    simp only [List.getElem?_toArray, List.getElem?_cons_zero, List.getElem?_cons_succ] at k0 k1 k2 k3 k4 k5 k6 k7 k8
    clear HX4
    have HX5 := Lib.hid hB
    go_wp2_with fail
    refine (HQT.out x1 _ HX5.out).mono ?_
    rintro e w5 ⟨rfl, b5⟩
    replace hC := hC.below b5 hC.lt
    replace hB := bnext hB b5
    clear b5
    clear k0 k1 k2 k3 k4 k5 k6 k7 k8
    have k0 := (hC).cell 0
    have k1 := (hC).cell 1
    have k2 := (hC).cell 2
    have k3 := (hC).cell 3
    have k4 := (hC).cell 4
    have k5 := (hC).cell 5
    have k6 := (hC).cell 6
    have k7 := (hC).cell 7
    have k8 := (hC).cell 8
    simp only [List.getElem?_toArray, List.getElem?_cons_zero, List.getElem?_cons_succ] at k0 k1 k2 k3 k4 k5 k6 k7 k8
    clear HX5
    have HX6 := Lib.hid hB
    go_wp2_with fail
    refine (HRR.out _ HX6.out).mono ?_
    rintro e w6 ⟨rfl, b6⟩
    replace hC := hC.below b6 hC.lt
    replace hB := bnext hB b6
    clear b6
    clear k0 k1 k2 k3 k4 k5 k6 k7 k8
    have k0 := (hC).cell 0
    have k1 := (hC).cell 1
    have k2 := (hC).cell 2
    have k3 := (hC).cell 3
    have k4 := (hC).cell 4
    have k5 := (hC).cell 5
    have k6 := (hC).cell 6
    have k7 := (hC).cell 7
    have k8 := (hC).cell 8
    simp only [List.getElem?_toArray, List.getElem?_cons_zero, List.getElem?_cons_succ] at k0 k1 k2 k3 k4 k5 k6 k7 k8
    clear HX6
    have HX7 := Lib.hid hB
    go_wp2_with (first | (go_at_call 10; refine (num_any _ _).mono ?_; rintro e w' ⟨rfl, rfl⟩) | (go_at_call 9; refine (HWK.out _ HX7.out).mono ?_; rintro e w7 ⟨rfl, b7⟩))
    go_ret
    exact ⟨rfl, bnext HX7.out b7⟩
  · replace hbd := hbd rfl
    simp only [waitC, errC, if_true] at HWT HQT
    have HW1 := Lib.hid (HRW.out ⟨by omega, by omega⟩ hbd.2.1)
    have HQ1 := Lib.hid (HRQ.out hbd.2.2.2.2.2.1 hbd.2.2.2.2.2.2)
    clear HRW HRQ hbd
    go_enter Tryd.func4, Tryd.ntmps4
    go_wp2_with fail
    refine (few_any p j t h g q s cp A n k _).mono ?_
    rintro e w1 ⟨rfl, b1⟩
    rw [decide_eq_true h30]
    have hC := hC0.below b1 hC0.lt
    have hB := bnext hB0 b1
    clear b1
    have k0 := (hC).cell 0
    have k1 := (hC).cell 1
    have k2 := (hC).cell 2
    have k3 := (hC).cell 3
    have k4 := (hC).cell 4
    have k5 := (hC).cell 5
    have k6 := (hC).cell 6
    have k7 := (hC).cell 7
    have k8 := (hC).cell 8
    simp only [List.getElem?_toArray, List.getElem?_cons_zero, List.getElem?_cons_succ] at k0 k1 k2 k3 k4 k5 k6 k7 k8
    have HX2 := Lib.hid hB
    go_wp2_with fail
    refine (HWT.out x0 _ HX2.out).mono ?_
    rintro e w2 ⟨rfl, b2⟩
    replace hC := hC.below b2 hC.lt
    replace hB := bnext hB b2
    clear b2
    clear k0 k1 k2 k3 k4 k5 k6 k7 k8
    have k0 := (hC).cell 0
    have k1 := (hC).cell 1
    have k2 := (hC).cell 2
    have k3 := (hC).cell 3
    have k4 := (hC).cell 4
    have k5 := (hC).cell 5
    have k6 := (hC).cell 6
    have k7 := (hC).cell 7
    have k8 := (hC).cell 8
    simp only [List.getElem?_toArray, List.getElem?_cons_zero, List.getElem?_cons_succ] at k0 k1 k2 k3 k4 k5 k6 k7 k8
    clear HX2
    have HX3 := Lib.hid hB
    go_wp2_with fail
    refine (HQT.out x0 _ HX3.out).mono ?_
    rintro e w3 ⟨rfl, b3⟩
    replace hC := hC.below b3 hC.lt
    replace hB := bnext hB b3
    clear b3
    clear k0 k1 k2 k3 k4 k5 k6 k7 k8
    have k0 := (hC).cell 0
    have k1 := (hC).cell 1
    have k2 := (hC).cell 2
    have k3 := (hC).cell 3
    have k4 := (hC).cell 4
    have k5 := (hC).cell 5
    have k6 := (hC).cell 6
    have k7 := (hC).cell 7
    have k8 := (hC).cell 8
    simp only [List.getElem?_toArray, List.getElem?_cons_zero, List.getElem?_cons_succ] at k0 k1 k2 k3 k4 k5 k6 k7 k8
    clear HX3
    have HX4 := Lib.hid hB
    go_wp2_with fail
    refine (HWT.out x1 _ HX4.out).mono ?_
    rintro e w4 ⟨rfl, b4⟩
    replace hC := hC.below b4 hC.lt
    replace hB := bnext hB b4
    clear b4
    clear k0 k1 k2 k3 k4 k5 k6 k7 k8
    have k0 := (hC).cell 0
    have k1 := (hC).cell 1
    have k2 := (hC).cell 2
    have k3 := (hC).cell 3
    have k4 := (hC).cell 4
    have k5 := (hC).cell 5
    have k6 := (hC).cell 6
    have k7 := (hC).cell 7
    have k8 := (hC).cell 8
    simp only [List.getElem?_toArray, List.getElem?_cons_zero, List.getElem?_cons_succ] at k0 k1 k2 k3 k4 k5 k6 k7 k8
    clear HX4
    have HX5 := Lib.hid hB
    go_wp2_with fail
    refine (HQT.out x1 _ HX5.out).mono ?_
    rintro e w5 ⟨rfl, b5⟩
    replace hC := hC.below b5 hC.lt
    replace hB := bnext hB b5
    clear b5
    clear k0 k1 k2 k3 k4 k5 k6 k7 k8
    have k0 := (hC).cell 0
    have k1 := (hC).cell 1
    have k2 := (hC).cell 2
    have k3 := (hC).cell 3
    have k4 := (hC).cell 4
    have k5 := (hC).cell 5
    have k6 := (hC).cell 6
    have k7 := (hC).cell 7
    have k8 := (hC).cell 8
    simp only [List.getElem?_toArray, List.getElem?_cons_zero, List.getElem?_cons_succ] at k0 k1 k2 k3 k4 k5 k6 k7 k8
    clear HX5
    have HX6 := Lib.hid hB
    go_wp2_with fail
    refine (HRR.out _ HX6.out).mono ?_
    rintro e w6 ⟨rfl, b6⟩
    replace hC := hC.below b6 hC.lt
    replace hB := bnext hB b6
    clear b6
    clear k0 k1 k2 k3 k4 k5 k6 k7 k8
    have k0 := (hC).cell 0
    have k1 := (hC).cell 1
    have k2 := (hC).cell 2
    have k3 := (hC).cell 3
    have k4 := (hC).cell 4
    have k5 := (hC).cell 5
    have k6 := (hC).cell 6
    have k7 := (hC).cell 7
    have k8 := (hC).cell 8
    simp only [List.getElem?_toArray, List.getElem?_cons_zero, List.getElem?_cons_succ] at k0 k1 k2 k3 k4 k5 k6 k7 k8
    clear HX6
    have e1 : (p + max 0 (min x0 j) == p + max 0 (min x0 j)) = true := by simp
    have e2 : (q + max 0 (min x0 s) == q + max 0 (min x0 s)) = true := by simp
    have e3 : (p + max 0 (min x1 j) == p + max 0 (min x1 j)) = true := by simp
    have e4 : (q + max 0 (min x1 s) == q + max 0 (min x1 s)) = true := by simp
    have hCH := Lib.hid hC
    go_wp2_with (go_at_call 10; refine (num_any _ _).mono ?_; rintro e w' ⟨rfl, rfl⟩)
    refine (HW1.out x0 _).mono ?_
    rintro e w7 ⟨rfl, b7⟩
    replace hC := hC.below b7 hC.lt
    replace hB := bnext hB b7
    clear b7
    clear k0 k1 k2 k3 k4 k5 k6 k7 k8
    have k0 := (hC).cell 0
    have k1 := (hC).cell 1
    have k2 := (hC).cell 2
    have k3 := (hC).cell 3
    have k4 := (hC).cell 4
    have k5 := (hC).cell 5
    have k6 := (hC).cell 6
    have k7 := (hC).cell 7
    have k8 := (hC).cell 8
    simp only [List.getElem?_toArray, List.getElem?_cons_zero, List.getElem?_cons_succ] at k0 k1 k2 k3 k4 k5 k6 k7 k8
    go_wp2_with fail
    refine (HQ1.out x0 _).mono ?_
    rintro e w8 ⟨rfl, b8⟩
    replace hC := hC.below b8 hC.lt
    replace hB := bnext hB b8
    clear b8
    clear k0 k1 k2 k3 k4 k5 k6 k7 k8
    have k0 := (hC).cell 0
    have k1 := (hC).cell 1
    have k2 := (hC).cell 2
    have k3 := (hC).cell 3
    have k4 := (hC).cell 4
    have k5 := (hC).cell 5
    have k6 := (hC).cell 6
    have k7 := (hC).cell 7
    have k8 := (hC).cell 8
    simp only [List.getElem?_toArray, List.getElem?_cons_zero, List.getElem?_cons_succ] at k0 k1 k2 k3 k4 k5 k6 k7 k8
    go_wp2_with fail
    refine (HW1.out x1 _).mono ?_
    rintro e w9 ⟨rfl, b9⟩
    replace hC := hC.below b9 hC.lt
    replace hB := bnext hB b9
    clear b9
    clear k0 k1 k2 k3 k4 k5 k6 k7 k8
    have k0 := (hC).cell 0
    have k1 := (hC).cell 1
    have k2 := (hC).cell 2
    have k3 := (hC).cell 3
    have k4 := (hC).cell 4
    have k5 := (hC).cell 5
    have k6 := (hC).cell 6
    have k7 := (hC).cell 7
    have k8 := (hC).cell 8
    simp only [List.getElem?_toArray, List.getElem?_cons_zero, List.getElem?_cons_succ] at k0 k1 k2 k3 k4 k5 k6 k7 k8
    go_wp2_with fail
    refine (HQ1.out x1 _).mono ?_
    rintro e w10 ⟨rfl, b10⟩
    replace hC := hC.below b10 hC.lt
    replace hB := bnext hB b10
    clear b10
    clear k0 k1 k2 k3 k4 k5 k6 k7 k8
    have k0 := (hC).cell 0
    have k1 := (hC).cell 1
    have k2 := (hC).cell 2
    have k3 := (hC).cell 3
    have k4 := (hC).cell 4
    have k5 := (hC).cell 5
    have k6 := (hC).cell 6
    have k7 := (hC).cell 7
    have k8 := (hC).cell 8
    simp only [List.getElem?_toArray, List.getElem?_cons_zero, List.getElem?_cons_succ] at k0 k1 k2 k3 k4 k5 k6 k7 k8
    go_wp2_with fail
    refine (HWK.out _ hB).mono ?_
    rintro e w11 ⟨rfl, b11⟩
    go_wp2_with fail
    go_ret
    exact ⟨rfl, bnext hB b11⟩

set_option maxHeartbeats 4000000 in
theorem configholds_walk (p j t h g q s cp : Int) (x0 : Int) (x1 : Int) (A : Option Addr) (n k : Nat) (l : List (Nat × Int)) (hn : l.length = n) (w : World) (hr : Rd w w.heap.size A (plC l)) (hnk : n ≤ k) (hk : k ≤ 9223372036854775807) (hl : ∀ x ∈ l, x.1 < 4294967296) (hw : CapsAt w)  :
    Calls Tryd.prog 6 #[.agg #[.int .i64 p, .int .i64 j, .int .i64 t, .int .i64 h, .int .i64 g, .int .i64 q, .int .i64 s, .int .i64 cp, .slice A n k], .int .i64 x0, .int .i64 x1] w fun e w' => e = .returned (.bool true) ∧ Below w.heap.size w w' := by
  have HCK := Lib.hid (fun W (hb : Below w.heap.size w W) => ccheck_any p j t h g q s cp  A n k w.heap.size l hn W (hr.below hb) hb.size hnk hk hl (hw.below hb))
  have HWT := Lib.hid (fun d W (hb : Below w.heap.size w W) => cwait_any p j t h g q s cp d A n k w.heap.size l hn W (hr.below hb) hb.size hnk hk hl (hw.below hb))
  have HQT := Lib.hid (fun d W (hb : Below w.heap.size w W) => cquiet_any p j t h g q s cp d A n k w.heap.size l hn W (hr.below hb) hb.size hnk hk hl (hw.below hb))
  have HWK := Lib.hid (fun W (hb : Below w.heap.size w W) => works8_any W (hw.below hb))
  have hC0 := Blk.new w 24 #[.int .i64 p, .int .i64 j, .int .i64 t, .int .i64 h, .int .i64 g, .int .i64 q, .int .i64 s, .int .i64 cp, .slice A n k]
  have hB0 : Below w.heap.size w (w.alloc (.cells #[.int .i64 p, .int .i64 j, .int .i64 t, .int .i64 h, .int .i64 g, .int .i64 q, .int .i64 s, .int .i64 cp, .slice A n k] 24)) := balloc (Below.refl _ _) _
  have hbd := okC_bounds (p := p) (j := j) (t := t) (h := h) (g := g) (q := q) (s := s) (cp := cp) (l := l)
  clear hr hl hw
  by_cases h30 : n ≤ 30
  case neg =>
    go_enter Tryd.func6, Tryd.ntmps6
    go_wp2_with fail
    refine (few_any p j t h g q s cp A n k _).mono ?_
    rintro e w1 ⟨rfl, b1⟩
    rw [decide_eq_false h30]
    have HX := Lib.hid (bnext hB0 b1)
    go_wp2_with fail
    refine (HWK.out _ HX.out).mono ?_
    rintro e w2 ⟨rfl, b2⟩
    go_wp2_with fail
    go_ret
    exact ⟨rfl, bnext HX.out b2⟩
  case pos =>
  generalize okC p j t h g q s cp l = ok at *
  cases ok
  · clear hbd HWT HQT
    simp only [errC, Bool.false_eq_true, if_false] at HCK
    go_enter Tryd.func6, Tryd.ntmps6
    go_wp2_with fail
    refine (few_any p j t h g q s cp A n k _).mono ?_
    rintro e w1 ⟨rfl, b1⟩
    rw [decide_eq_true h30]
    have hC := hC0.below b1 hC0.lt
    have hB := bnext hB0 b1
    clear b1
    have k0 := (hC).cell 0
    have k1 := (hC).cell 1
    have k2 := (hC).cell 2
    have k3 := (hC).cell 3
    have k4 := (hC).cell 4
    have k5 := (hC).cell 5
    have k6 := (hC).cell 6
    have k7 := (hC).cell 7
    have k8 := (hC).cell 8
    simp only [List.getElem?_toArray, List.getElem?_cons_zero, List.getElem?_cons_succ] at k0 k1 k2 k3 k4 k5 k6 k7 k8
    have HX2 := Lib.hid hB
    go_wp2_with fail
    refine (HCK.out _ HX2.out).mono ?_
    rintro e w2 ⟨rfl, b2⟩
    have HX3 := Lib.hid (bnext hB b2)
    go_wp2_with (go_at_call 10; refine (num_any _ _).mono ?_; rintro e w' ⟨rfl, rfl⟩)
    refine (HWK.out _ HX3.out).mono ?_
    rintro e w3 ⟨rfl, b3⟩
    go_wp2_with fail
    go_ret
    exact ⟨rfl, bnext HX3.out b3⟩
  · replace hbd := hbd rfl
    obtain ⟨⟨p0, p1⟩, ⟨j0, j1⟩, _, _, _, ⟨q0, q1⟩, ⟨s0, s1⟩⟩ := hbd
    simp only [waitC, errC, if_true] at HCK HWT HQT
    obtain ⟨mn, hmn⟩ : ∃ mn, min x0 x1 = mn := ⟨_, rfl⟩
    obtain ⟨mx, hmx⟩ : ∃ mx, max x0 x1 = mx := ⟨_, rfl⟩
    have hmm : mn ≤ mx := by omega
    obtain ⟨v1, hv1⟩ : ∃ v, p + max 0 (min mn j) = v := ⟨_, rfl⟩
    obtain ⟨v2, hv2⟩ : ∃ v, p + max 0 (min mx j) = v := ⟨_, rfl⟩
    obtain ⟨v3, hv3⟩ : ∃ v, q + max 0 (min mn s) = v := ⟨_, rfl⟩
    obtain ⟨v4, hv4⟩ : ∃ v, q + max 0 (min mx s) = v := ⟨_, rfl⟩
    have r1 : p ≤ v1 := by omega
    have r2 : v1 ≤ v2 := by omega
    have r3 : v2 ≤ p + j := by omega
    have r4 : q ≤ v3 := by omega
    have r5 : v3 ≤ v4 := by omega
    have r6 : v4 ≤ q + s := by omega
    have HA1 := Lib.hid (HWT.out mn)
    rw [hv1] at HA1
    have HA2 := Lib.hid (HWT.out mx)
    rw [hv2] at HA2
    have HA3 := Lib.hid (HQT.out mn)
    rw [hv3] at HA3
    have HA4 := Lib.hid (HQT.out mx)
    rw [hv4] at HA4
    clear HWT HQT hv1 hv2 hv3 hv4 hmm
    go_enter Tryd.func6, Tryd.ntmps6
    go_wp2_with fail
    refine (few_any p j t h g q s cp A n k _).mono ?_
    rintro e w1 ⟨rfl, b1⟩
    rw [decide_eq_true h30]
    have hC := hC0.below b1 hC0.lt
    have hB := bnext hB0 b1
    clear b1
    have k0 := (hC).cell 0
    have k1 := (hC).cell 1
    have k2 := (hC).cell 2
    have k3 := (hC).cell 3
    have k4 := (hC).cell 4
    have k5 := (hC).cell 5
    have k6 := (hC).cell 6
    have k7 := (hC).cell 7
    have k8 := (hC).cell 8
    simp only [List.getElem?_toArray, List.getElem?_cons_zero, List.getElem?_cons_succ] at k0 k1 k2 k3 k4 k5 k6 k7 k8
    have HX2 := Lib.hid hB
    go_wp2_with fail
    refine (HCK.out _ HX2.out).mono ?_
    rintro e w2 ⟨rfl, b2⟩
    replace hC := hC.below b2 hC.lt
    replace hB := bnext hB b2
    clear b2
    clear k0 k1 k2 k3 k4 k5 k6 k7 k8
    have k0 := (hC).cell 0
    have k1 := (hC).cell 1
    have k2 := (hC).cell 2
    have k3 := (hC).cell 3
    have k4 := (hC).cell 4
    have k5 := (hC).cell 5
    have k6 := (hC).cell 6
    have k7 := (hC).cell 7
    have k8 := (hC).cell 8
    simp only [List.getElem?_toArray, List.getElem?_cons_zero, List.getElem?_cons_succ] at k0 k1 k2 k3 k4 k5 k6 k7 k8
    clear HX2
    have HX3 := Lib.hid hB
    go_wp2_with (go_at_call 10; refine (num_any _ _).mono ?_; rintro e w' ⟨rfl, rfl⟩)
    refine (HA1.out _ HX3.out).mono ?_
    rintro e w3 ⟨rfl, b3⟩
    replace hC := hC.below b3 hC.lt
    replace hB := bnext hB b3
    clear b3
    clear k0 k1 k2 k3 k4 k5 k6 k7 k8
    have k0 := (hC).cell 0
    have k1 := (hC).cell 1
    have k2 := (hC).cell 2
    have k3 := (hC).cell 3
    have k4 := (hC).cell 4
    have k5 := (hC).cell 5
    have k6 := (hC).cell 6
    have k7 := (hC).cell 7
    have k8 := (hC).cell 8
    simp only [List.getElem?_toArray, List.getElem?_cons_zero, List.getElem?_cons_succ] at k0 k1 k2 k3 k4 k5 k6 k7 k8
    clear HX3
    have HX4 := Lib.hid hB
    go_wp2_with fail
    refine (HA2.out _ HX4.out).mono ?_
    rintro e w4 ⟨rfl, b4⟩
    replace hC := hC.below b4 hC.lt
    replace hB := bnext hB b4
    clear b4
    clear k0 k1 k2 k3 k4 k5 k6 k7 k8
    have k0 := (hC).cell 0
    have k1 := (hC).cell 1
    have k2 := (hC).cell 2
    have k3 := (hC).cell 3
    have k4 := (hC).cell 4
    have k5 := (hC).cell 5
    have k6 := (hC).cell 6
    have k7 := (hC).cell 7
    have k8 := (hC).cell 8
    simp only [List.getElem?_toArray, List.getElem?_cons_zero, List.getElem?_cons_succ] at k0 k1 k2 k3 k4 k5 k6 k7 k8
    clear HX4
    have HX5 := Lib.hid hB
    go_wp2_with fail
    refine (HA3.out _ HX5.out).mono ?_
    rintro e w5 ⟨rfl, b5⟩
    replace hC := hC.below b5 hC.lt
    replace hB := bnext hB b5
    clear b5
    clear k0 k1 k2 k3 k4 k5 k6 k7 k8
    have k0 := (hC).cell 0
    have k1 := (hC).cell 1
    have k2 := (hC).cell 2
    have k3 := (hC).cell 3
    have k4 := (hC).cell 4
    have k5 := (hC).cell 5
    have k6 := (hC).cell 6
    have k7 := (hC).cell 7
    have k8 := (hC).cell 8
    simp only [List.getElem?_toArray, List.getElem?_cons_zero, List.getElem?_cons_succ] at k0 k1 k2 k3 k4 k5 k6 k7 k8
    clear HX5
    have HX6 := Lib.hid hB
    go_wp2_with fail
    refine (HA4.out _ HX6.out).mono ?_
    rintro e w6 ⟨rfl, b6⟩
    replace hC := hC.below b6 hC.lt
    replace hB := bnext hB b6
    clear b6
    clear k0 k1 k2 k3 k4 k5 k6 k7 k8
    have k0 := (hC).cell 0
    have k1 := (hC).cell 1
    have k2 := (hC).cell 2
    have k3 := (hC).cell 3
    have k4 := (hC).cell 4
    have k5 := (hC).cell 5
    have k6 := (hC).cell 6
    have k7 := (hC).cell 7
    have k8 := (hC).cell 8
    simp only [List.getElem?_toArray, List.getElem?_cons_zero, List.getElem?_cons_succ] at k0 k1 k2 k3 k4 k5 k6 k7 k8
    clear HX6
    have HX7 := Lib.hid hB
    go_wp2_with (first | (go_at_call 10; refine (num_any _ _).mono ?_; rintro e w' ⟨rfl, rfl⟩) | (go_at_call 9; refine (HWK.out _ HX7.out).mono ?_; rintro e w7 ⟨rfl, b7⟩))
    go_ret
    exact ⟨rfl, bnext HX7.out b7⟩
end Go.Proofs.YtcinggnhfgkahaaDoor
