/- PulseHolds: the walk. -/
import Derived.Test.YtlgkjboamfgbeaaDoorPulE
namespace Go.Proofs.YtlgkjboamfgbeaaDoor
set_option linter.unusedVariables false
set_option linter.unusedSimpArgs false
open Go.RowKit
set_option maxRecDepth 100000

set_option maxHeartbeats 40000000 in
theorem pulseholds_no_walk (p j t h g q s cp : Int) (lc ld : Nat) (Ac Ad : Option Addr) (kc kd : Nat) (bs : List Bool) (zs : List Int) (hbs : bs.length = lc) (hzs : zs.length = ld) (A : Option Addr) (n k : Nat) (l : List (Nat × Int)) (hn : l.length = n) (w : World) (hr : Rd w w.heap.size A (plC l)) (hnk : n ≤ k) (hk : k ≤ 9223372036854775807) (hl : ∀ x ∈ l, x.1 < 4294967296) (hw : CapsAt w) (hrc : Rd w w.heap.size Ac (bs.map Value.bool)) (hrd : Rd w w.heap.size Ad (zs.map (Value.int .i64))) (hck : lc ≤ kc) (hck2 : kc ≤ 9223372036854775807) (hdk : ld ≤ kd) (hdk2 : kd ≤ 9223372036854775807) (hno : ¬ (n ≤ 20 ∧ okC p j t h g q s cp l = true ∧ lc ≤ 120 ∧ ld ≤ 120 ∧ p ≤ 40 ∧ j ≤ 40 ∧ q ≤ 40 ∧ s ≤ 40)) :
    Calls Tryd.prog 6 #[.agg #[.int .i64 p, .int .i64 j, .int .i64 t, .int .i64 h, .int .i64 g, .int .i64 q, .int .i64 s, .int .i64 cp, .slice A n k], .slice Ac lc kc, .slice Ad ld kd] w fun e w' => e = .returned (.bool true) ∧ Below w.heap.size w w' := by
  have HBG := Lib.hid (fun nw dr W (hb : Below w.heap.size w W) => begin_any p j t h g q s cp A n k w.heap.size l hn nw dr W (hr.below hb) hb.size hnk hk hl (hw.below hb))
  have HCH := Lib.hid (fun du un nw dr wt W (hb : Below w.heap.size w W) => pchange_any p j t h g q s cp A n k w.heap.size l hn du un nw dr wt W (hr.below hb) hb.size hnk hk hl (hw.below hb))
  have HTK := Lib.hid (fun du un nw dr wt W (hb : Below w.heap.size w W) => ptick_any p j t h g q s cp A n k w.heap.size l hn du un nw dr wt W (hr.below hb) hb.size hnk hk hl (hw.below hb))
  have HAS := Lib.hid (fun du un nw wt W (hb : Below w.heap.size w W) => asked_any p j t h g q s cp A n k w.heap.size l hn du un nw wt W (hr.below hb) hb.size hnk hk hl)
  have HRG := Lib.hid (fun W (hb : Below w.heap.size w W) => right8_any p j t h g q s cp A n k w.heap.size l hn W (hr.below hb) hb.size hnk hk hl)
  have HWK := Lib.hid (fun W (hb : Below w.heap.size w W) => works15_any W (hw.below hb))
  have hbd := okC_bounds (p := p) (j := j) (t := t) (h := h) (g := g) (q := q) (s := s) (cp := cp) (l := l)
  have hC0 := Blk.new w 24 #[.int .i64 p, .int .i64 j, .int .i64 t, .int .i64 h, .int .i64 g, .int .i64 q, .int .i64 s, .int .i64 cp, .slice A n k]
  have hB0 : Below w.heap.size w (w.alloc (.cells #[.int .i64 p, .int .i64 j, .int .i64 t, .int .i64 h, .int .i64 g, .int .i64 q, .int .i64 s, .int .i64 cp, .slice A n k] 24)) := balloc (Below.refl _ _) _
  have HRC := Lib.hid (fun W (hb : Below w.heap.size w W) => hrc.below hb)
  have HRD := Lib.hid (fun W (hb : Below w.heap.size w W) => hrd.below hb)
  have HBS := Lib.hid hbs
  have HZS := Lib.hid hzs
  clear hr hl hw HAS hrc hrd hbs hzs
  clear HBG HCH HTK
  by_cases h20 : n ≤ 20
  case neg =>
    go_enter Tryd.func6, Tryd.ntmps6
    go_wp2_with fail
    refine (few15_any p j t h g q s cp A n k _).mono ?_
    rintro e w1 ⟨rfl, b1⟩
    rw [decide_eq_false h20]
    have HX := Lib.hid (bnext hB0 b1)
    go_wp2_with fail
    refine (HWK.out _ HX.out).mono ?_
    rintro e w2 ⟨rfl, b2⟩
    go_wp2_with fail
    go_ret
    exact ⟨rfl, bnext HX.out b2⟩
  case pos =>
  cases hok : okC p j t h g q s cp l
  case false =>
    rw [hok] at HRG
    clear hbd hok
    go_enter Tryd.func6, Tryd.ntmps6
    go_wp2_with fail
    refine (few15_any p j t h g q s cp A n k _).mono ?_
    rintro e w1 ⟨rfl, b1⟩
    rw [decide_eq_true h20]
    have hC := hC0.below b1 hC0.lt
    have hB := bnext hB0 b1
    clear b1 hC0 hB0
    have k0 := (hC).cell 0
    have k1 := (hC).cell 1
    have k2 := (hC).cell 2
    have k3 := (hC).cell 3
    have k4 := (hC).cell 4
    have k5 := (hC).cell 5
    have k6 := (hC).cell 6
    have k7 := (hC).cell 7
    have k8 := (hC).cell 8
    simp only [List.getElem?_toArray, List.getElem?_cons_zero, List.getElem?_cons_succ] at k0 k1 k2 k3 k4 k5 k6 k7 k8
    have HX2 := Lib.hid hB
    go_wp2_with fail
    refine (HRG.out _ HX2.out).mono ?_
    rintro e w2 ⟨rfl, b2⟩
    replace hC := hC.below b2 hC.lt
    replace hB := bnext hB b2
    clear b2 HX2
    clear k0 k1 k2 k3 k4 k5 k6 k7 k8
    have k0 := (hC).cell 0
    have k1 := (hC).cell 1
    have k2 := (hC).cell 2
    have k3 := (hC).cell 3
    have k4 := (hC).cell 4
    have k5 := (hC).cell 5
    have k6 := (hC).cell 6
    have k7 := (hC).cell 7
    have k8 := (hC).cell 8
    simp only [List.getElem?_toArray, List.getElem?_cons_zero, List.getElem?_cons_succ] at k0 k1 k2 k3 k4 k5 k6 k7 k8
    have HX3 := Lib.hid hB
    go_wp2_with fail
    refine (HWK.out _ HX3.out).mono ?_
    rintro e w3 ⟨rfl, b3⟩
    go_wp2_with fail
    go_ret
    exact ⟨rfl, bnext HX3.out b3⟩
  case true =>
  have hb2 := hbd hok
  rw [hok] at HRG
  clear hbd
  by_cases g0 : lc ≤ 120
  case neg =>
    clear hok hno
    have g0' : decide (120 < lc) = true := decide_eq_true (by omega)
    have g0'' : decide ((120 : Int) < lc) = true := decide_eq_true (by omega)
    go_enter Tryd.func6, Tryd.ntmps6
    go_wp2_with fail
    refine (few15_any p j t h g q s cp A n k _).mono ?_
    rintro e w1 ⟨rfl, b1⟩
    rw [decide_eq_true h20]
    have hC := hC0.below b1 hC0.lt
    have hB := bnext hB0 b1
    clear b1 hC0 hB0
    have k0 := (hC).cell 0
    have k1 := (hC).cell 1
    have k2 := (hC).cell 2
    have k3 := (hC).cell 3
    have k4 := (hC).cell 4
    have k5 := (hC).cell 5
    have k6 := (hC).cell 6
    have k7 := (hC).cell 7
    have k8 := (hC).cell 8
    simp only [List.getElem?_toArray, List.getElem?_cons_zero, List.getElem?_cons_succ] at k0 k1 k2 k3 k4 k5 k6 k7 k8
    have HX2 := Lib.hid hB
    go_wp2_with fail
    refine (HRG.out _ HX2.out).mono ?_
    rintro e w2 ⟨rfl, b2⟩
    replace hC := hC.below b2 hC.lt
    replace hB := bnext hB b2
    clear b2 HX2
    clear k0 k1 k2 k3 k4 k5 k6 k7 k8
    have k0 := (hC).cell 0
    have k1 := (hC).cell 1
    have k2 := (hC).cell 2
    have k3 := (hC).cell 3
    have k4 := (hC).cell 4
    have k5 := (hC).cell 5
    have k6 := (hC).cell 6
    have k7 := (hC).cell 7
    have k8 := (hC).cell 8
    simp only [List.getElem?_toArray, List.getElem?_cons_zero, List.getElem?_cons_succ] at k0 k1 k2 k3 k4 k5 k6 k7 k8
    have HX3 := Lib.hid hB
    go_wp2_with fail
    refine (HWK.out _ HX3.out).mono ?_
    rintro e w3 ⟨rfl, b3⟩
    go_wp2_with fail
    go_ret
    exact ⟨rfl, bnext HX3.out b3⟩
  case pos =>
  have e0 : decide ((120 : Int) < lc) = false := decide_eq_false (by omega)
  by_cases g1 : ld ≤ 120
  case neg =>
    clear hok hno
    have g1' : decide (120 < ld) = true := decide_eq_true (by omega)
    have g1'' : decide ((120 : Int) < ld) = true := decide_eq_true (by omega)
    go_enter Tryd.func6, Tryd.ntmps6
    go_wp2_with fail
    refine (few15_any p j t h g q s cp A n k _).mono ?_
    rintro e w1 ⟨rfl, b1⟩
    rw [decide_eq_true h20]
    have hC := hC0.below b1 hC0.lt
    have hB := bnext hB0 b1
    clear b1 hC0 hB0
    have k0 := (hC).cell 0
    have k1 := (hC).cell 1
    have k2 := (hC).cell 2
    have k3 := (hC).cell 3
    have k4 := (hC).cell 4
    have k5 := (hC).cell 5
    have k6 := (hC).cell 6
    have k7 := (hC).cell 7
    have k8 := (hC).cell 8
    simp only [List.getElem?_toArray, List.getElem?_cons_zero, List.getElem?_cons_succ] at k0 k1 k2 k3 k4 k5 k6 k7 k8
    have HX2 := Lib.hid hB
    go_wp2_with fail
    refine (HRG.out _ HX2.out).mono ?_
    rintro e w2 ⟨rfl, b2⟩
    replace hC := hC.below b2 hC.lt
    replace hB := bnext hB b2
    clear b2 HX2
    clear k0 k1 k2 k3 k4 k5 k6 k7 k8
    have k0 := (hC).cell 0
    have k1 := (hC).cell 1
    have k2 := (hC).cell 2
    have k3 := (hC).cell 3
    have k4 := (hC).cell 4
    have k5 := (hC).cell 5
    have k6 := (hC).cell 6
    have k7 := (hC).cell 7
    have k8 := (hC).cell 8
    simp only [List.getElem?_toArray, List.getElem?_cons_zero, List.getElem?_cons_succ] at k0 k1 k2 k3 k4 k5 k6 k7 k8
    have HX3 := Lib.hid hB
    go_wp2_with fail
    refine (HWK.out _ HX3.out).mono ?_
    rintro e w3 ⟨rfl, b3⟩
    go_wp2_with fail
    go_ret
    exact ⟨rfl, bnext HX3.out b3⟩
  case pos =>
  have e1 : decide ((120 : Int) < ld) = false := decide_eq_false (by omega)
  by_cases g2 : p ≤ 40
  case neg =>
    clear hok hno
    have g2' : decide (40 < p) = true := decide_eq_true (by omega)
    go_enter Tryd.func6, Tryd.ntmps6
    go_wp2_with fail
    refine (few15_any p j t h g q s cp A n k _).mono ?_
    rintro e w1 ⟨rfl, b1⟩
    rw [decide_eq_true h20]
    have hC := hC0.below b1 hC0.lt
    have hB := bnext hB0 b1
    clear b1 hC0 hB0
    have k0 := (hC).cell 0
    have k1 := (hC).cell 1
    have k2 := (hC).cell 2
    have k3 := (hC).cell 3
    have k4 := (hC).cell 4
    have k5 := (hC).cell 5
    have k6 := (hC).cell 6
    have k7 := (hC).cell 7
    have k8 := (hC).cell 8
    simp only [List.getElem?_toArray, List.getElem?_cons_zero, List.getElem?_cons_succ] at k0 k1 k2 k3 k4 k5 k6 k7 k8
    have HX2 := Lib.hid hB
    go_wp2_with fail
    refine (HRG.out _ HX2.out).mono ?_
    rintro e w2 ⟨rfl, b2⟩
    replace hC := hC.below b2 hC.lt
    replace hB := bnext hB b2
    clear b2 HX2
    clear k0 k1 k2 k3 k4 k5 k6 k7 k8
    have k0 := (hC).cell 0
    have k1 := (hC).cell 1
    have k2 := (hC).cell 2
    have k3 := (hC).cell 3
    have k4 := (hC).cell 4
    have k5 := (hC).cell 5
    have k6 := (hC).cell 6
    have k7 := (hC).cell 7
    have k8 := (hC).cell 8
    simp only [List.getElem?_toArray, List.getElem?_cons_zero, List.getElem?_cons_succ] at k0 k1 k2 k3 k4 k5 k6 k7 k8
    have HX3 := Lib.hid hB
    go_wp2_with fail
    refine (HWK.out _ HX3.out).mono ?_
    rintro e w3 ⟨rfl, b3⟩
    go_wp2_with fail
    go_ret
    exact ⟨rfl, bnext HX3.out b3⟩
  case pos =>
  have e2 : decide (40 < p) = false := decide_eq_false (by omega)
  by_cases g3 : j ≤ 40
  case neg =>
    clear hok hno
    have g3' : decide (40 < j) = true := decide_eq_true (by omega)
    go_enter Tryd.func6, Tryd.ntmps6
    go_wp2_with fail
    refine (few15_any p j t h g q s cp A n k _).mono ?_
    rintro e w1 ⟨rfl, b1⟩
    rw [decide_eq_true h20]
    have hC := hC0.below b1 hC0.lt
    have hB := bnext hB0 b1
    clear b1 hC0 hB0
    have k0 := (hC).cell 0
    have k1 := (hC).cell 1
    have k2 := (hC).cell 2
    have k3 := (hC).cell 3
    have k4 := (hC).cell 4
    have k5 := (hC).cell 5
    have k6 := (hC).cell 6
    have k7 := (hC).cell 7
    have k8 := (hC).cell 8
    simp only [List.getElem?_toArray, List.getElem?_cons_zero, List.getElem?_cons_succ] at k0 k1 k2 k3 k4 k5 k6 k7 k8
    have HX2 := Lib.hid hB
    go_wp2_with fail
    refine (HRG.out _ HX2.out).mono ?_
    rintro e w2 ⟨rfl, b2⟩
    replace hC := hC.below b2 hC.lt
    replace hB := bnext hB b2
    clear b2 HX2
    clear k0 k1 k2 k3 k4 k5 k6 k7 k8
    have k0 := (hC).cell 0
    have k1 := (hC).cell 1
    have k2 := (hC).cell 2
    have k3 := (hC).cell 3
    have k4 := (hC).cell 4
    have k5 := (hC).cell 5
    have k6 := (hC).cell 6
    have k7 := (hC).cell 7
    have k8 := (hC).cell 8
    simp only [List.getElem?_toArray, List.getElem?_cons_zero, List.getElem?_cons_succ] at k0 k1 k2 k3 k4 k5 k6 k7 k8
    have HX3 := Lib.hid hB
    go_wp2_with fail
    refine (HWK.out _ HX3.out).mono ?_
    rintro e w3 ⟨rfl, b3⟩
    go_wp2_with fail
    go_ret
    exact ⟨rfl, bnext HX3.out b3⟩
  case pos =>
  have e3 : decide (40 < j) = false := decide_eq_false (by omega)
  by_cases g4 : q ≤ 40
  case neg =>
    clear hok hno
    have g4' : decide (40 < q) = true := decide_eq_true (by omega)
    go_enter Tryd.func6, Tryd.ntmps6
    go_wp2_with fail
    refine (few15_any p j t h g q s cp A n k _).mono ?_
    rintro e w1 ⟨rfl, b1⟩
    rw [decide_eq_true h20]
    have hC := hC0.below b1 hC0.lt
    have hB := bnext hB0 b1
    clear b1 hC0 hB0
    have k0 := (hC).cell 0
    have k1 := (hC).cell 1
    have k2 := (hC).cell 2
    have k3 := (hC).cell 3
    have k4 := (hC).cell 4
    have k5 := (hC).cell 5
    have k6 := (hC).cell 6
    have k7 := (hC).cell 7
    have k8 := (hC).cell 8
    simp only [List.getElem?_toArray, List.getElem?_cons_zero, List.getElem?_cons_succ] at k0 k1 k2 k3 k4 k5 k6 k7 k8
    have HX2 := Lib.hid hB
    go_wp2_with fail
    refine (HRG.out _ HX2.out).mono ?_
    rintro e w2 ⟨rfl, b2⟩
    replace hC := hC.below b2 hC.lt
    replace hB := bnext hB b2
    clear b2 HX2
    clear k0 k1 k2 k3 k4 k5 k6 k7 k8
    have k0 := (hC).cell 0
    have k1 := (hC).cell 1
    have k2 := (hC).cell 2
    have k3 := (hC).cell 3
    have k4 := (hC).cell 4
    have k5 := (hC).cell 5
    have k6 := (hC).cell 6
    have k7 := (hC).cell 7
    have k8 := (hC).cell 8
    simp only [List.getElem?_toArray, List.getElem?_cons_zero, List.getElem?_cons_succ] at k0 k1 k2 k3 k4 k5 k6 k7 k8
    have HX3 := Lib.hid hB
    go_wp2_with fail
    refine (HWK.out _ HX3.out).mono ?_
    rintro e w3 ⟨rfl, b3⟩
    go_wp2_with fail
    go_ret
    exact ⟨rfl, bnext HX3.out b3⟩
  case pos =>
  have e4 : decide (40 < q) = false := decide_eq_false (by omega)
  by_cases g5 : s ≤ 40
  case neg =>
    clear hok hno
    have g5' : decide (40 < s) = true := decide_eq_true (by omega)
    go_enter Tryd.func6, Tryd.ntmps6
    go_wp2_with fail
    refine (few15_any p j t h g q s cp A n k _).mono ?_
    rintro e w1 ⟨rfl, b1⟩
    rw [decide_eq_true h20]
    have hC := hC0.below b1 hC0.lt
    have hB := bnext hB0 b1
    clear b1 hC0 hB0
    have k0 := (hC).cell 0
    have k1 := (hC).cell 1
    have k2 := (hC).cell 2
    have k3 := (hC).cell 3
    have k4 := (hC).cell 4
    have k5 := (hC).cell 5
    have k6 := (hC).cell 6
    have k7 := (hC).cell 7
    have k8 := (hC).cell 8
    simp only [List.getElem?_toArray, List.getElem?_cons_zero, List.getElem?_cons_succ] at k0 k1 k2 k3 k4 k5 k6 k7 k8
    have HX2 := Lib.hid hB
    go_wp2_with fail
    refine (HRG.out _ HX2.out).mono ?_
    rintro e w2 ⟨rfl, b2⟩
    replace hC := hC.below b2 hC.lt
    replace hB := bnext hB b2
    clear b2 HX2
    clear k0 k1 k2 k3 k4 k5 k6 k7 k8
    have k0 := (hC).cell 0
    have k1 := (hC).cell 1
    have k2 := (hC).cell 2
    have k3 := (hC).cell 3
    have k4 := (hC).cell 4
    have k5 := (hC).cell 5
    have k6 := (hC).cell 6
    have k7 := (hC).cell 7
    have k8 := (hC).cell 8
    simp only [List.getElem?_toArray, List.getElem?_cons_zero, List.getElem?_cons_succ] at k0 k1 k2 k3 k4 k5 k6 k7 k8
    have HX3 := Lib.hid hB
    go_wp2_with fail
    refine (HWK.out _ HX3.out).mono ?_
    rintro e w3 ⟨rfl, b3⟩
    go_wp2_with fail
    go_ret
    exact ⟨rfl, bnext HX3.out b3⟩
  case pos =>
  have e5 : decide (40 < s) = false := decide_eq_false (by omega)
  exact absurd ⟨h20, hok, g0, g1, g2, g3, g4, g5⟩ hno
end Go.Proofs.YtlgkjboamfgbeaaDoor
