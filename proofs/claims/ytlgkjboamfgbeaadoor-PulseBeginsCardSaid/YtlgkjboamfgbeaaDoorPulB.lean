/- PulseBegins: the walk. -/
import Derived.Test.YtlgkjboamfgbeaaDoorPulW
namespace Go.Proofs.YtlgkjboamfgbeaaDoor
set_option linter.unusedVariables false
set_option linter.unusedSimpArgs false
open Go.RowKit
set_option maxRecDepth 100000

set_option maxHeartbeats 4000000 in
theorem pulsebegins_walk (p j t h g q s cp : Int) (nw dr : Int) (A : Option Addr) (n k : Nat) (l : List (Nat × Int)) (hn : l.length = n) (w : World) (hr : Rd w w.heap.size A (plC l)) (hnk : n ≤ k) (hk : k ≤ 9223372036854775807) (hl : ∀ x ∈ l, x.1 < 4294967296) (hw : CapsAt w) :
    Calls Tryd.prog 3 #[.agg #[.int .i64 p, .int .i64 j, .int .i64 t, .int .i64 h, .int .i64 g, .int .i64 q, .int .i64 s, .int .i64 cp, .slice A n k], .int .i64 nw, .int .i64 dr] w fun e w' => e = .returned (.bool true) ∧ Below w.heap.size w w' := by
  have HBG := Lib.hid (fun nw dr W (hb : Below w.heap.size w W) => begin_any p j t h g q s cp A n k w.heap.size l hn nw dr W (hr.below hb) hb.size hnk hk hl (hw.below hb))
  have HCH := Lib.hid (fun du un nw dr wt W (hb : Below w.heap.size w W) => pchange_any p j t h g q s cp A n k w.heap.size l hn du un nw dr wt W (hr.below hb) hb.size hnk hk hl (hw.below hb))
  have HTK := Lib.hid (fun du un nw dr wt W (hb : Below w.heap.size w W) => ptick_any p j t h g q s cp A n k w.heap.size l hn du un nw dr wt W (hr.below hb) hb.size hnk hk hl (hw.below hb))
  have HAS := Lib.hid (fun du un nw wt W (hb : Below w.heap.size w W) => asked_any p j t h g q s cp A n k w.heap.size l hn du un nw wt W (hr.below hb) hb.size hnk hk hl)
  have HRG := Lib.hid (fun W (hb : Below w.heap.size w W) => right8_any p j t h g q s cp A n k w.heap.size l hn W (hr.below hb) hb.size hnk hk hl)
  have HWK := Lib.hid (fun W (hb : Below w.heap.size w W) => works15_any W (hw.below hb))
  have hbd := okC_bounds (p := p) (j := j) (t := t) (h := h) (g := g) (q := q) (s := s) (cp := cp) (l := l)
  have hC0 := Blk.new w 24 #[.int .i64 p, .int .i64 j, .int .i64 t, .int .i64 h, .int .i64 g, .int .i64 q, .int .i64 s, .int .i64 cp, .slice A n k]
  have hB0 : Below w.heap.size w (w.alloc (.cells #[.int .i64 p, .int .i64 j, .int .i64 t, .int .i64 h, .int .i64 g, .int .i64 q, .int .i64 s, .int .i64 cp, .slice A n k] 24)) := balloc (Below.refl _ _) _
  clear hr hl hw HCH HTK HRG
  by_cases h20 : n ≤ 20
  case neg =>
    go_enter Tryd.func3, Tryd.ntmps3
    go_wp2_with fail
    refine (few15_any p j t h g q s cp A n k _).mono ?_
    rintro e w1 ⟨rfl, b1⟩
    rw [decide_eq_false h20]
    have HX := Lib.hid (bnext hB0 b1)
    go_wp2_with fail
    refine (HWK.out _ HX.out).mono ?_
    rintro e w2 ⟨rfl, b2⟩
    go_wp2_with fail
    go_ret
    exact ⟨rfl, bnext HX.out b2⟩
  case pos =>
  have HBG' := Lib.hid (fun W hb => HBG.out nw dr W hb)
  have HAS' := Lib.hid (fun W hb => HAS.out 0 0 nw false W hb)
  rw [okT_0] at HAS'
  clear HBG HAS
  have hEQ := fun (w : World) => eq_pulse (nw + (p + max 0 (min dr j))) nw (nw + (p + max 0 (min dr j))) nw false false w
  have hRB := fun (hp : 0 ≤ p ∧ p ≤ 1000000) (hj : 0 ≤ j ∧ j ≤ 1000000) (hnw : okN nw = true) W => rbegin_any p j t h g q s cp A n k nw dr W hp hj hnw
  have HRB := Lib.hid hRB
  clear hRB
  have hE := askE_cases (okC p j t h g q s cp l) true (okN nw)
  generalize askE (okC p j t h g q s cp l) true (okN nw) = er at *
  generalize nw + (p + max 0 (min dr j)) = yw at *
  rcases hE with rfl | rfl | ⟨rfl, hoc, _, hon⟩
  · have hE0 : ∀ (w : World), (binOp .eql 28 (.agg #[.int .i64 0, .int .i64 0, .bool false]) (.agg #[.int .i64 0, .int .i64 0, .bool false])).run Tryd.prog w = .ok (.bool true) w := fun w => eq_pulse 0 0 0 0 false false w
    clear hEQ HRB hbd
    go_enter Tryd.func3, Tryd.ntmps3
    go_wp2_with fail
    refine (few15_any p j t h g q s cp A n k _).mono ?_
    rintro e w1 ⟨rfl, b1⟩
    rw [decide_eq_true h20]
    have hC := hC0.below b1 hC0.lt
    have hB := bnext hB0 b1
    clear b1 hC0 hB0
    have k0 := (hC).cell 0
    have k1 := (hC).cell 1
    have k2 := (hC).cell 2
    have k3 := (hC).cell 3
    have k4 := (hC).cell 4
    have k5 := (hC).cell 5
    have k6 := (hC).cell 6
    have k7 := (hC).cell 7
    have k8 := (hC).cell 8
    simp only [List.getElem?_toArray, List.getElem?_cons_zero, List.getElem?_cons_succ] at k0 k1 k2 k3 k4 k5 k6 k7 k8
    have HX2 := Lib.hid hB
    go_wp2_with fail
    have K := HBG'.out _ HX2.out
    rw [show begR 2 yw nw = .tuple #[.agg #[.int .i64 0, .int .i64 0, .bool false], .int .i64 2] from rfl] at K
    refine K.mono ?_
    rintro e w2 ⟨rfl, b2⟩
    clear K
    replace hC := (hC.below b2 hC.lt).alloc (.cells #[.int .i64 0, .int .i64 0, .bool false] 28)
    have hP := Blk.new w2 28 #[.int .i64 0, .int .i64 0, .bool false]
    replace hB := balloc (bnext hB b2) (.cells #[.int .i64 0, .int .i64 0, .bool false] 28)
    clear b2 HX2
    clear k0 k1 k2 k3 k4 k5 k6 k7 k8
    have k0 := (hC).cell 0
    have k1 := (hC).cell 1
    have k2 := (hC).cell 2
    have k3 := (hC).cell 3
    have k4 := (hC).cell 4
    have k5 := (hC).cell 5
    have k6 := (hC).cell 6
    have k7 := (hC).cell 7
    have k8 := (hC).cell 8
    simp only [List.getElem?_toArray, List.getElem?_cons_zero, List.getElem?_cons_succ] at k0 k1 k2 k3 k4 k5 k6 k7 k8
    have HX3 := Lib.hid hB
    go_wp2_with fail
    refine (HAS'.out _ HX3.out).mono ?_
    rintro e w3 ⟨rfl, b3⟩
    replace hC := hC.below b3 hC.lt
    replace hP := hP.below b3 hP.lt
    replace hB := bnext hB b3
    clear b3 HX3
    clear k0 k1 k2 k3 k4 k5 k6 k7 k8
    have d0 := (hP).cell 0
    have d1 := (hP).cell 1
    have d2 := (hP).cell 2
    simp only [List.getElem?_toArray, List.getElem?_cons_zero, List.getElem?_cons_succ] at d0 d1 d2
    have HX4 := Lib.hid hB
    go_wp2_with (first | (go_at_call 12; refine (num_any _ _).mono ?_; rintro e w' ⟨rfl, rfl⟩) | (go_at_call 9; refine (HWK.out _ HX4.out).mono ?_; rintro e w4 ⟨rfl, b4⟩))
    go_ret
    exact ⟨rfl, bnext HX4.out b4⟩
  · have hE0 : ∀ (w : World), (binOp .eql 28 (.agg #[.int .i64 0, .int .i64 0, .bool false]) (.agg #[.int .i64 0, .int .i64 0, .bool false])).run Tryd.prog w = .ok (.bool true) w := fun w => eq_pulse 0 0 0 0 false false w
    clear hEQ HRB hbd
    go_enter Tryd.func3, Tryd.ntmps3
    go_wp2_with fail
    refine (few15_any p j t h g q s cp A n k _).mono ?_
    rintro e w1 ⟨rfl, b1⟩
    rw [decide_eq_true h20]
    have hC := hC0.below b1 hC0.lt
    have hB := bnext hB0 b1
    clear b1 hC0 hB0
    have k0 := (hC).cell 0
    have k1 := (hC).cell 1
    have k2 := (hC).cell 2
    have k3 := (hC).cell 3
    have k4 := (hC).cell 4
    have k5 := (hC).cell 5
    have k6 := (hC).cell 6
    have k7 := (hC).cell 7
    have k8 := (hC).cell 8
    simp only [List.getElem?_toArray, List.getElem?_cons_zero, List.getElem?_cons_succ] at k0 k1 k2 k3 k4 k5 k6 k7 k8
    have HX2 := Lib.hid hB
    go_wp2_with fail
    have K := HBG'.out _ HX2.out
    rw [show begR 170 yw nw = .tuple #[.agg #[.int .i64 0, .int .i64 0, .bool false], .int .i64 170] from rfl] at K
    refine K.mono ?_
    rintro e w2 ⟨rfl, b2⟩
    clear K
    replace hC := (hC.below b2 hC.lt).alloc (.cells #[.int .i64 0, .int .i64 0, .bool false] 28)
    have hP := Blk.new w2 28 #[.int .i64 0, .int .i64 0, .bool false]
    replace hB := balloc (bnext hB b2) (.cells #[.int .i64 0, .int .i64 0, .bool false] 28)
    clear b2 HX2
    clear k0 k1 k2 k3 k4 k5 k6 k7 k8
    have k0 := (hC).cell 0
    have k1 := (hC).cell 1
    have k2 := (hC).cell 2
    have k3 := (hC).cell 3
    have k4 := (hC).cell 4
    have k5 := (hC).cell 5
    have k6 := (hC).cell 6
    have k7 := (hC).cell 7
    have k8 := (hC).cell 8
    simp only [List.getElem?_toArray, List.getElem?_cons_zero, List.getElem?_cons_succ] at k0 k1 k2 k3 k4 k5 k6 k7 k8
    have HX3 := Lib.hid hB
    go_wp2_with fail
    refine (HAS'.out _ HX3.out).mono ?_
    rintro e w3 ⟨rfl, b3⟩
    replace hC := hC.below b3 hC.lt
    replace hP := hP.below b3 hP.lt
    replace hB := bnext hB b3
    clear b3 HX3
    clear k0 k1 k2 k3 k4 k5 k6 k7 k8
    have d0 := (hP).cell 0
    have d1 := (hP).cell 1
    have d2 := (hP).cell 2
    simp only [List.getElem?_toArray, List.getElem?_cons_zero, List.getElem?_cons_succ] at d0 d1 d2
    have HX4 := Lib.hid hB
    go_wp2_with (first | (go_at_call 12; refine (num_any _ _).mono ?_; rintro e w' ⟨rfl, rfl⟩) | (go_at_call 9; refine (HWK.out _ HX4.out).mono ?_; rintro e w4 ⟨rfl, b4⟩))
    go_ret
    exact ⟨rfl, bnext HX4.out b4⟩
  · have hb2 := hbd hoc
    have HRB' := Lib.hid (fun W => HRB.out (by omega) (by omega) hon W)
    have hq1 : (yw == yw && nw == nw && false == false) = true := by simp
    rw [hq1] at hEQ
    clear HRB hbd hb2 hoc hon hq1
    go_enter Tryd.func3, Tryd.ntmps3
    go_wp2_with fail
    refine (few15_any p j t h g q s cp A n k _).mono ?_
    rintro e w1 ⟨rfl, b1⟩
    rw [decide_eq_true h20]
    have hC := hC0.below b1 hC0.lt
    have hB := bnext hB0 b1
    clear b1 hC0 hB0
    have k0 := (hC).cell 0
    have k1 := (hC).cell 1
    have k2 := (hC).cell 2
    have k3 := (hC).cell 3
    have k4 := (hC).cell 4
    have k5 := (hC).cell 5
    have k6 := (hC).cell 6
    have k7 := (hC).cell 7
    have k8 := (hC).cell 8
    simp only [List.getElem?_toArray, List.getElem?_cons_zero, List.getElem?_cons_succ] at k0 k1 k2 k3 k4 k5 k6 k7 k8
    have HX2 := Lib.hid hB
    go_wp2_with fail
    have K := HBG'.out _ HX2.out
    rw [show begR 0 yw nw = .tuple #[.agg #[.int .i64 yw, .int .i64 nw, .bool false], .int .i64 0] from rfl] at K
    refine K.mono ?_
    rintro e w2 ⟨rfl, b2⟩
    clear K
    replace hC := (hC.below b2 hC.lt).alloc (.cells #[.int .i64 yw, .int .i64 nw, .bool false] 28)
    have hP := Blk.new w2 28 #[.int .i64 yw, .int .i64 nw, .bool false]
    replace hB := balloc (bnext hB b2) (.cells #[.int .i64 yw, .int .i64 nw, .bool false] 28)
    clear b2 HX2
    clear k0 k1 k2 k3 k4 k5 k6 k7 k8
    have k0 := (hC).cell 0
    have k1 := (hC).cell 1
    have k2 := (hC).cell 2
    have k3 := (hC).cell 3
    have k4 := (hC).cell 4
    have k5 := (hC).cell 5
    have k6 := (hC).cell 6
    have k7 := (hC).cell 7
    have k8 := (hC).cell 8
    simp only [List.getElem?_toArray, List.getElem?_cons_zero, List.getElem?_cons_succ] at k0 k1 k2 k3 k4 k5 k6 k7 k8
    have HX3 := Lib.hid hB
    go_wp2_with fail
    refine (HAS'.out _ HX3.out).mono ?_
    rintro e w3 ⟨rfl, b3⟩
    replace hC := hC.below b3 hC.lt
    replace hP := hP.below b3 hP.lt
    replace hB := bnext hB b3
    clear b3 HX3
    clear k0 k1 k2 k3 k4 k5 k6 k7 k8
    have d0 := (hP).cell 0
    have d1 := (hP).cell 1
    have d2 := (hP).cell 2
    simp only [List.getElem?_toArray, List.getElem?_cons_zero, List.getElem?_cons_succ] at d0 d1 d2
    go_wp2_with fail
    clear d0 d1 d2
    have k0 := fun v : Sub w3 => ((hC).below v.2 (hC).lt).cell 0
    have k1 := fun v : Sub w3 => ((hC).below v.2 (hC).lt).cell 1
    have k2 := fun v : Sub w3 => ((hC).below v.2 (hC).lt).cell 2
    have k3 := fun v : Sub w3 => ((hC).below v.2 (hC).lt).cell 3
    have k4 := fun v : Sub w3 => ((hC).below v.2 (hC).lt).cell 4
    have k5 := fun v : Sub w3 => ((hC).below v.2 (hC).lt).cell 5
    have k6 := fun v : Sub w3 => ((hC).below v.2 (hC).lt).cell 6
    have k7 := fun v : Sub w3 => ((hC).below v.2 (hC).lt).cell 7
    have k8 := fun v : Sub w3 => ((hC).below v.2 (hC).lt).cell 8
    simp only [List.getElem?_toArray, List.getElem?_cons_zero, List.getElem?_cons_succ] at k0 k1 k2 k3 k4 k5 k6 k7 k8
    have d0 := fun v : Sub w3 => ((hP).below v.2 (hP).lt).cell 0
    have d1 := fun v : Sub w3 => ((hP).below v.2 (hP).lt).cell 1
    have d2 := fun v : Sub w3 => ((hP).below v.2 (hP).lt).cell 2
    simp only [List.getElem?_toArray, List.getElem?_cons_zero, List.getElem?_cons_succ] at d0 d1 d2
    have hne : Nonempty (Sub w3) := ⟨⟨_, Below.refl _ _⟩⟩
    have HWS := Lib.hid (fun v : Sub w3 => HWK.out v.1 (bnext hB v.2))
    refine region_sub (by kernel_rfl) (by kernel_rfl) ?_
    repeat (first | go_big_quiet_step (((first | (go_at_call 13; exact sub_below (HRB'.out _)) | (go_at_call 12; exact sub_same (num_any _ _)) | (go_at_call 9; exact sub_below (HWS.out _))))) | quiet_step (((first | (go_at_call 13; exact sub_below (HRB'.out _)) | (go_at_call 12; exact sub_same (num_any _ _)) | (go_at_call 9; exact sub_below (HWS.out _))))))
    refine wpQuiet_nil ?_
    rintro _ ⟨v, rfl⟩
    go_wp2_with fail
    go_ret
    exact ⟨rfl, bnext hB v.2⟩
end Go.Proofs.YtlgkjboamfgbeaaDoor
