/- PulseBeats: the walk. -/
import Derived.Test.YtlgkjboamfgbeaaDoorPulW
namespace Go.Proofs.YtlgkjboamfgbeaaDoor
set_option linter.unusedVariables false
set_option linter.unusedSimpArgs false
open Go.RowKit
set_option maxRecDepth 100000

set_option maxHeartbeats 4000000 in
theorem pulsebeats_walk (p j t h g q s cp : Int) (du un nw dr : Int) (wt : Bool) (A : Option Addr) (n k : Nat) (l : List (Nat × Int)) (hn : l.length = n) (w : World) (hr : Rd w w.heap.size A (plC l)) (hnk : n ≤ k) (hk : k ≤ 9223372036854775807) (hl : ∀ x ∈ l, x.1 < 4294967296) (hw : CapsAt w) :
    Calls Tryd.prog 4 #[.agg #[.int .i64 p, .int .i64 j, .int .i64 t, .int .i64 h, .int .i64 g, .int .i64 q, .int .i64 s, .int .i64 cp, .slice A n k], .agg #[.int .i64 du, .int .i64 un, .bool wt], .int .i64 nw, .int .i64 dr] w fun e w' => e = .returned (.bool true) ∧ Below w.heap.size w w' := by
  have HBG := Lib.hid (fun nw dr W (hb : Below w.heap.size w W) => begin_any p j t h g q s cp A n k w.heap.size l hn nw dr W (hr.below hb) hb.size hnk hk hl (hw.below hb))
  have HCH := Lib.hid (fun du un nw dr wt W (hb : Below w.heap.size w W) => pchange_any p j t h g q s cp A n k w.heap.size l hn du un nw dr wt W (hr.below hb) hb.size hnk hk hl (hw.below hb))
  have HTK := Lib.hid (fun du un nw dr wt W (hb : Below w.heap.size w W) => ptick_any p j t h g q s cp A n k w.heap.size l hn du un nw dr wt W (hr.below hb) hb.size hnk hk hl (hw.below hb))
  have HAS := Lib.hid (fun du un nw wt W (hb : Below w.heap.size w W) => asked_any p j t h g q s cp A n k w.heap.size l hn du un nw wt W (hr.below hb) hb.size hnk hk hl)
  have HRG := Lib.hid (fun W (hb : Below w.heap.size w W) => right8_any p j t h g q s cp A n k w.heap.size l hn W (hr.below hb) hb.size hnk hk hl)
  have HWK := Lib.hid (fun W (hb : Below w.heap.size w W) => works15_any W (hw.below hb))
  have hbd := okC_bounds (p := p) (j := j) (t := t) (h := h) (g := g) (q := q) (s := s) (cp := cp) (l := l)
  have hC0 := (Blk.new w 24 #[.int .i64 p, .int .i64 j, .int .i64 t, .int .i64 h, .int .i64 g, .int .i64 q, .int .i64 s, .int .i64 cp, .slice A n k]).alloc (.cells #[.int .i64 du, .int .i64 un, .bool wt] 28)
  have hQ0 := Blk.new (w.alloc (.cells #[.int .i64 p, .int .i64 j, .int .i64 t, .int .i64 h, .int .i64 g, .int .i64 q, .int .i64 s, .int .i64 cp, .slice A n k] 24)) 28 #[.int .i64 du, .int .i64 un, .bool wt]
  rw [World.size_alloc] at hQ0
  have hB0 : Below w.heap.size w ((w.alloc (.cells #[.int .i64 p, .int .i64 j, .int .i64 t, .int .i64 h, .int .i64 g, .int .i64 q, .int .i64 s, .int .i64 cp, .slice A n k] 24)).alloc (.cells #[.int .i64 du, .int .i64 un, .bool wt] 28)) := balloc (balloc (Below.refl _ _) _) _
  clear hr hl hw HRG HBG
  by_cases h20 : n ≤ 20
  case neg =>
    go_enter Tryd.func4, Tryd.ntmps4
    go_wp2_with fail
    refine (few15_any p j t h g q s cp A n k _).mono ?_
    rintro e w1 ⟨rfl, b1⟩
    rw [decide_eq_false h20]
    have HX := Lib.hid (bnext hB0 b1)
    go_wp2_with fail
    refine (HWK.out _ HX.out).mono ?_
    rintro e w2 ⟨rfl, b2⟩
    go_wp2_with fail
    go_ret
    exact ⟨rfl, bnext HX.out b2⟩
  case pos =>
  have HCH' := Lib.hid (fun W hb => HCH.out du un nw dr wt W hb)
  have HTK' := Lib.hid (fun W hb => HTK.out du un nw dr wt W hb)
  have HAS' := Lib.hid (fun W hb => HAS.out du un nw wt W hb)
  have HRC := Lib.hid (fun (hq : 0 ≤ q ∧ q ≤ 1000000) (hs : 0 ≤ s ∧ s ≤ 1000000) (hnw : okN nw = true) W => rchange_any p j t h g q s cp A n k du un nw dr wt W hq hs hnw)
  have HRT := Lib.hid (fun (hp : 0 ≤ p ∧ p ≤ 1000000) (hj : 0 ≤ j ∧ j ≤ 1000000) (hq : 0 ≤ q ∧ q ≤ 1000000) (hs : 0 ≤ s ∧ s ≤ 1000000) (hnw : okN nw = true) W => rtick_any p j t h g q s cp A n k du un nw dr wt W hp hj hq hs hnw)
  clear HCH HTK HAS
  have hE := askE_cases (okC p j t h g q s cp l) (okT du && okT un) (okN nw)
  generalize askE (okC p j t h g q s cp l) (okT du && okT un) (okN nw) = er at *
  have HN1 := Lib.hid (fun W => pnext_any du un wt W)
  have HN2 := Lib.hid (fun W => rnext_any du un wt W)
  generalize nxtF du un wt = nx at *
  generalize chgF q s du un wt nw dr = yc at *
  generalize tckF p j q s du un wt nw dr = yt at *
  have hEQ : ∀ (a b : Int) (c : Bool) (w : World), (binOp .eql 28 (.agg #[.int .i64 a, .int .i64 b, .bool c]) (.agg #[.int .i64 a, .int .i64 b, .bool c])).run Tryd.prog w = .ok (.bool true) w := fun a b c w => by
    rw [eq_pulse]; simp
  rcases hE with rfl | rfl | ⟨rfl, hoc, _, hon⟩
  · clear HRC HRT hbd
    rw [show pres 2 yc = ((0, 0, false), 0) from rfl] at HCH'
    rw [show pres 2 yt = ((0, 0, false), 0) from rfl] at HTK'
    unfold GivesP at HCH' HTK'
    try simp only at HCH' HTK'
    go_enter Tryd.func4, Tryd.ntmps4
    go_wp2_with fail
    refine (few15_any p j t h g q s cp A n k _).mono ?_
    rintro e w1 ⟨rfl, b1⟩
    rw [decide_eq_true h20]
    have hC := hC0.below b1 hC0.lt
    have hQ := hQ0.below b1 hQ0.lt
    have hB := bnext hB0 b1
    clear b1 hC0 hB0 hQ0
    have k0 := (hC).cell 0
    have k1 := (hC).cell 1
    have k2 := (hC).cell 2
    have k3 := (hC).cell 3
    have k4 := (hC).cell 4
    have k5 := (hC).cell 5
    have k6 := (hC).cell 6
    have k7 := (hC).cell 7
    have k8 := (hC).cell 8
    simp only [List.getElem?_toArray, List.getElem?_cons_zero, List.getElem?_cons_succ] at k0 k1 k2 k3 k4 k5 k6 k7 k8
    have q0 := (hQ).cell 0
    have q1 := (hQ).cell 1
    have q2 := (hQ).cell 2
    simp only [List.getElem?_toArray, List.getElem?_cons_zero, List.getElem?_cons_succ] at q0 q1 q2
    have HX2 := Lib.hid hB
    go_wp2_with fail
    refine (HCH'.out _ HX2.out).mono ?_
    rintro e w2 ⟨rfl, b2⟩
    replace hC := (hC.below b2 hC.lt).alloc (.cells #[.int .i64 0, .int .i64 0, .bool false] 28)
    replace hQ := (hQ.below b2 hQ.lt).alloc (.cells #[.int .i64 0, .int .i64 0, .bool false] 28)
    have hP := Blk.new w2 28 #[.int .i64 0, .int .i64 0, .bool false]
    replace hB := balloc (bnext hB b2) (.cells #[.int .i64 0, .int .i64 0, .bool false] 28)
    clear b2 HX2
    clear k0 k1 k2 k3 k4 k5 k6 k7 k8 q0 q1 q2
    have k0 := (hC).cell 0
    have k1 := (hC).cell 1
    have k2 := (hC).cell 2
    have k3 := (hC).cell 3
    have k4 := (hC).cell 4
    have k5 := (hC).cell 5
    have k6 := (hC).cell 6
    have k7 := (hC).cell 7
    have k8 := (hC).cell 8
    simp only [List.getElem?_toArray, List.getElem?_cons_zero, List.getElem?_cons_succ] at k0 k1 k2 k3 k4 k5 k6 k7 k8
    have q0 := (hQ).cell 0
    have q1 := (hQ).cell 1
    have q2 := (hQ).cell 2
    simp only [List.getElem?_toArray, List.getElem?_cons_zero, List.getElem?_cons_succ] at q0 q1 q2
    have HX3 := Lib.hid hB
    go_wp2_with fail
    refine (HTK'.out _ HX3.out).mono ?_
    rintro e w3 ⟨rfl, b3⟩
    replace hC := (hC.below b3 hC.lt).alloc (.cells #[.int .i64 0, .int .i64 0, .bool false] 28)
    replace hQ := (hQ.below b3 hQ.lt).alloc (.cells #[.int .i64 0, .int .i64 0, .bool false] 28)
    replace hP := (hP.below b3 hP.lt).alloc (.cells #[.int .i64 0, .int .i64 0, .bool false] 28)
    have hT := Blk.new w3 28 #[.int .i64 0, .int .i64 0, .bool false]
    replace hB := balloc (bnext hB b3) (.cells #[.int .i64 0, .int .i64 0, .bool false] 28)
    clear b3 HX3
    clear k0 k1 k2 k3 k4 k5 k6 k7 k8 q0 q1 q2
    have hnn : (nx != nx) = false := by simp
    go_wp2_with fail
    obtain ⟨w4, hw4⟩ : ∃ w4, w4 = w3.alloc (.cells #[.int .i64 0, .int .i64 0, .bool false] 28) := ⟨_, rfl⟩
    rw [← hw4] at hC hQ hP hT hB ⊢
    clear hw4
    have q0 := fun v : Sub w4 => ((hQ).below v.2 (hQ).lt).cell 0
    have q1 := fun v : Sub w4 => ((hQ).below v.2 (hQ).lt).cell 1
    have q2 := fun v : Sub w4 => ((hQ).below v.2 (hQ).lt).cell 2
    simp only [List.getElem?_toArray, List.getElem?_cons_zero, List.getElem?_cons_succ] at q0 q1 q2
    have hne : Nonempty (Sub w4) := ⟨⟨_, Below.refl _ _⟩⟩
    refine region_sub (by kernel_rfl) (by kernel_rfl) ?_
    repeat (first | go_big_quiet_step (((first | (go_at_call 16; exact sub_below (HN1.out _)) | (go_at_call 17; exact sub_below (HN2.out _))))) | quiet_step (((first | (go_at_call 16; exact sub_below (HN1.out _)) | (go_at_call 17; exact sub_below (HN2.out _))))))
    refine wpQuiet_nil ?_
    rintro _ ⟨v, rfl⟩
    replace hC := hC.below v.2 hC.lt
    replace hQ := hQ.below v.2 hQ.lt
    replace hP := hP.below v.2 hP.lt
    replace hT := hT.below v.2 hT.lt
    replace hB := bnext hB v.2
    clear q0 q1 q2
    have k0 := (hC).cell 0
    have k1 := (hC).cell 1
    have k2 := (hC).cell 2
    have k3 := (hC).cell 3
    have k4 := (hC).cell 4
    have k5 := (hC).cell 5
    have k6 := (hC).cell 6
    have k7 := (hC).cell 7
    have k8 := (hC).cell 8
    simp only [List.getElem?_toArray, List.getElem?_cons_zero, List.getElem?_cons_succ] at k0 k1 k2 k3 k4 k5 k6 k7 k8
    have q0 := (hQ).cell 0
    have q1 := (hQ).cell 1
    have q2 := (hQ).cell 2
    simp only [List.getElem?_toArray, List.getElem?_cons_zero, List.getElem?_cons_succ] at q0 q1 q2
    have HX4 := Lib.hid hB
    go_wp2_with fail
    refine (HAS'.out _ HX4.out).mono ?_
    rintro e w5 ⟨rfl, b5⟩
    replace hC := hC.below b5 hC.lt
    replace hQ := hQ.below b5 hQ.lt
    replace hP := hP.below b5 hP.lt
    replace hT := hT.below b5 hT.lt
    replace hB := bnext hB b5
    clear b5 HX4
    clear k0 k1 k2 k3 k4 k5 k6 k7 k8 q0 q1 q2
    have d0 := (hP).cell 0
    have d1 := (hP).cell 1
    have d2 := (hP).cell 2
    simp only [List.getElem?_toArray, List.getElem?_cons_zero, List.getElem?_cons_succ] at d0 d1 d2
    have f0 := (hT).cell 0
    have f1 := (hT).cell 1
    have f2 := (hT).cell 2
    simp only [List.getElem?_toArray, List.getElem?_cons_zero, List.getElem?_cons_succ] at f0 f1 f2
    have HX5 := Lib.hid hB
    go_wp2_with (first | (go_at_call 12; refine (num_any _ _).mono ?_; rintro e w' ⟨rfl, rfl⟩) | (go_at_call 9; refine (HWK.out _ HX5.out).mono ?_; rintro e w6 ⟨rfl, b6⟩))
    go_ret
    exact ⟨rfl, bnext HX5.out b6⟩
  · clear HRC HRT hbd
    rw [show pres 170 yc = ((0, 0, false), 0) from rfl] at HCH'
    rw [show pres 170 yt = ((0, 0, false), 0) from rfl] at HTK'
    unfold GivesP at HCH' HTK'
    try simp only at HCH' HTK'
    go_enter Tryd.func4, Tryd.ntmps4
    go_wp2_with fail
    refine (few15_any p j t h g q s cp A n k _).mono ?_
    rintro e w1 ⟨rfl, b1⟩
    rw [decide_eq_true h20]
    have hC := hC0.below b1 hC0.lt
    have hQ := hQ0.below b1 hQ0.lt
    have hB := bnext hB0 b1
    clear b1 hC0 hB0 hQ0
    have k0 := (hC).cell 0
    have k1 := (hC).cell 1
    have k2 := (hC).cell 2
    have k3 := (hC).cell 3
    have k4 := (hC).cell 4
    have k5 := (hC).cell 5
    have k6 := (hC).cell 6
    have k7 := (hC).cell 7
    have k8 := (hC).cell 8
    simp only [List.getElem?_toArray, List.getElem?_cons_zero, List.getElem?_cons_succ] at k0 k1 k2 k3 k4 k5 k6 k7 k8
    have q0 := (hQ).cell 0
    have q1 := (hQ).cell 1
    have q2 := (hQ).cell 2
    simp only [List.getElem?_toArray, List.getElem?_cons_zero, List.getElem?_cons_succ] at q0 q1 q2
    have HX2 := Lib.hid hB
    go_wp2_with fail
    refine (HCH'.out _ HX2.out).mono ?_
    rintro e w2 ⟨rfl, b2⟩
    replace hC := (hC.below b2 hC.lt).alloc (.cells #[.int .i64 0, .int .i64 0, .bool false] 28)
    replace hQ := (hQ.below b2 hQ.lt).alloc (.cells #[.int .i64 0, .int .i64 0, .bool false] 28)
    have hP := Blk.new w2 28 #[.int .i64 0, .int .i64 0, .bool false]
    replace hB := balloc (bnext hB b2) (.cells #[.int .i64 0, .int .i64 0, .bool false] 28)
    clear b2 HX2
    clear k0 k1 k2 k3 k4 k5 k6 k7 k8 q0 q1 q2
    have k0 := (hC).cell 0
    have k1 := (hC).cell 1
    have k2 := (hC).cell 2
    have k3 := (hC).cell 3
    have k4 := (hC).cell 4
    have k5 := (hC).cell 5
    have k6 := (hC).cell 6
    have k7 := (hC).cell 7
    have k8 := (hC).cell 8
    simp only [List.getElem?_toArray, List.getElem?_cons_zero, List.getElem?_cons_succ] at k0 k1 k2 k3 k4 k5 k6 k7 k8
    have q0 := (hQ).cell 0
    have q1 := (hQ).cell 1
    have q2 := (hQ).cell 2
    simp only [List.getElem?_toArray, List.getElem?_cons_zero, List.getElem?_cons_succ] at q0 q1 q2
    have HX3 := Lib.hid hB
    go_wp2_with fail
    refine (HTK'.out _ HX3.out).mono ?_
    rintro e w3 ⟨rfl, b3⟩
    replace hC := (hC.below b3 hC.lt).alloc (.cells #[.int .i64 0, .int .i64 0, .bool false] 28)
    replace hQ := (hQ.below b3 hQ.lt).alloc (.cells #[.int .i64 0, .int .i64 0, .bool false] 28)
    replace hP := (hP.below b3 hP.lt).alloc (.cells #[.int .i64 0, .int .i64 0, .bool false] 28)
    have hT := Blk.new w3 28 #[.int .i64 0, .int .i64 0, .bool false]
    replace hB := balloc (bnext hB b3) (.cells #[.int .i64 0, .int .i64 0, .bool false] 28)
    clear b3 HX3
    clear k0 k1 k2 k3 k4 k5 k6 k7 k8 q0 q1 q2
    have hnn : (nx != nx) = false := by simp
    go_wp2_with fail
    obtain ⟨w4, hw4⟩ : ∃ w4, w4 = w3.alloc (.cells #[.int .i64 0, .int .i64 0, .bool false] 28) := ⟨_, rfl⟩
    rw [← hw4] at hC hQ hP hT hB ⊢
    clear hw4
    have q0 := fun v : Sub w4 => ((hQ).below v.2 (hQ).lt).cell 0
    have q1 := fun v : Sub w4 => ((hQ).below v.2 (hQ).lt).cell 1
    have q2 := fun v : Sub w4 => ((hQ).below v.2 (hQ).lt).cell 2
    simp only [List.getElem?_toArray, List.getElem?_cons_zero, List.getElem?_cons_succ] at q0 q1 q2
    have hne : Nonempty (Sub w4) := ⟨⟨_, Below.refl _ _⟩⟩
    refine region_sub (by kernel_rfl) (by kernel_rfl) ?_
    repeat (first | go_big_quiet_step (((first | (go_at_call 16; exact sub_below (HN1.out _)) | (go_at_call 17; exact sub_below (HN2.out _))))) | quiet_step (((first | (go_at_call 16; exact sub_below (HN1.out _)) | (go_at_call 17; exact sub_below (HN2.out _))))))
    refine wpQuiet_nil ?_
    rintro _ ⟨v, rfl⟩
    replace hC := hC.below v.2 hC.lt
    replace hQ := hQ.below v.2 hQ.lt
    replace hP := hP.below v.2 hP.lt
    replace hT := hT.below v.2 hT.lt
    replace hB := bnext hB v.2
    clear q0 q1 q2
    have k0 := (hC).cell 0
    have k1 := (hC).cell 1
    have k2 := (hC).cell 2
    have k3 := (hC).cell 3
    have k4 := (hC).cell 4
    have k5 := (hC).cell 5
    have k6 := (hC).cell 6
    have k7 := (hC).cell 7
    have k8 := (hC).cell 8
    simp only [List.getElem?_toArray, List.getElem?_cons_zero, List.getElem?_cons_succ] at k0 k1 k2 k3 k4 k5 k6 k7 k8
    have q0 := (hQ).cell 0
    have q1 := (hQ).cell 1
    have q2 := (hQ).cell 2
    simp only [List.getElem?_toArray, List.getElem?_cons_zero, List.getElem?_cons_succ] at q0 q1 q2
    have HX4 := Lib.hid hB
    go_wp2_with fail
    refine (HAS'.out _ HX4.out).mono ?_
    rintro e w5 ⟨rfl, b5⟩
    replace hC := hC.below b5 hC.lt
    replace hQ := hQ.below b5 hQ.lt
    replace hP := hP.below b5 hP.lt
    replace hT := hT.below b5 hT.lt
    replace hB := bnext hB b5
    clear b5 HX4
    clear k0 k1 k2 k3 k4 k5 k6 k7 k8 q0 q1 q2
    have d0 := (hP).cell 0
    have d1 := (hP).cell 1
    have d2 := (hP).cell 2
    simp only [List.getElem?_toArray, List.getElem?_cons_zero, List.getElem?_cons_succ] at d0 d1 d2
    have f0 := (hT).cell 0
    have f1 := (hT).cell 1
    have f2 := (hT).cell 2
    simp only [List.getElem?_toArray, List.getElem?_cons_zero, List.getElem?_cons_succ] at f0 f1 f2
    have HX5 := Lib.hid hB
    go_wp2_with (first | (go_at_call 12; refine (num_any _ _).mono ?_; rintro e w' ⟨rfl, rfl⟩) | (go_at_call 9; refine (HWK.out _ HX5.out).mono ?_; rintro e w6 ⟨rfl, b6⟩))
    go_ret
    exact ⟨rfl, bnext HX5.out b6⟩
  · have hb2 := hbd hoc
    have HRC' := Lib.hid (fun W => HRC.out (by omega) (by omega) hon W)
    have HRT' := Lib.hid (fun W => HRT.out (by omega) (by omega) (by omega) (by omega) hon W)
    unfold GivesR at HRC' HRT'
    clear HRC HRT hbd hb2 hoc hon
    have hqc : (yc.2 == yc.2) = true := by simp
    have hqt : (yt.2 == yt.2) = true := by simp
    rw [show pres 0 yc = yc from rfl] at HCH'
    rw [show pres 0 yt = yt from rfl] at HTK'
    unfold GivesP at HCH' HTK'
    try simp only at HCH' HTK'
    go_enter Tryd.func4, Tryd.ntmps4
    go_wp2_with fail
    refine (few15_any p j t h g q s cp A n k _).mono ?_
    rintro e w1 ⟨rfl, b1⟩
    rw [decide_eq_true h20]
    have hC := hC0.below b1 hC0.lt
    have hQ := hQ0.below b1 hQ0.lt
    have hB := bnext hB0 b1
    clear b1 hC0 hB0 hQ0
    have k0 := (hC).cell 0
    have k1 := (hC).cell 1
    have k2 := (hC).cell 2
    have k3 := (hC).cell 3
    have k4 := (hC).cell 4
    have k5 := (hC).cell 5
    have k6 := (hC).cell 6
    have k7 := (hC).cell 7
    have k8 := (hC).cell 8
    simp only [List.getElem?_toArray, List.getElem?_cons_zero, List.getElem?_cons_succ] at k0 k1 k2 k3 k4 k5 k6 k7 k8
    have q0 := (hQ).cell 0
    have q1 := (hQ).cell 1
    have q2 := (hQ).cell 2
    simp only [List.getElem?_toArray, List.getElem?_cons_zero, List.getElem?_cons_succ] at q0 q1 q2
    have HX2 := Lib.hid hB
    go_wp2_with fail
    refine (HCH'.out _ HX2.out).mono ?_
    rintro e w2 ⟨rfl, b2⟩
    replace hC := (hC.below b2 hC.lt).alloc (.cells #[.int .i64 yc.1.1, .int .i64 yc.1.2.1, .bool yc.1.2.2] 28)
    replace hQ := (hQ.below b2 hQ.lt).alloc (.cells #[.int .i64 yc.1.1, .int .i64 yc.1.2.1, .bool yc.1.2.2] 28)
    have hP := Blk.new w2 28 #[.int .i64 yc.1.1, .int .i64 yc.1.2.1, .bool yc.1.2.2]
    replace hB := balloc (bnext hB b2) (.cells #[.int .i64 yc.1.1, .int .i64 yc.1.2.1, .bool yc.1.2.2] 28)
    clear b2 HX2
    clear k0 k1 k2 k3 k4 k5 k6 k7 k8 q0 q1 q2
    have k0 := (hC).cell 0
    have k1 := (hC).cell 1
    have k2 := (hC).cell 2
    have k3 := (hC).cell 3
    have k4 := (hC).cell 4
    have k5 := (hC).cell 5
    have k6 := (hC).cell 6
    have k7 := (hC).cell 7
    have k8 := (hC).cell 8
    simp only [List.getElem?_toArray, List.getElem?_cons_zero, List.getElem?_cons_succ] at k0 k1 k2 k3 k4 k5 k6 k7 k8
    have q0 := (hQ).cell 0
    have q1 := (hQ).cell 1
    have q2 := (hQ).cell 2
    simp only [List.getElem?_toArray, List.getElem?_cons_zero, List.getElem?_cons_succ] at q0 q1 q2
    have HX3 := Lib.hid hB
    go_wp2_with fail
    refine (HTK'.out _ HX3.out).mono ?_
    rintro e w3 ⟨rfl, b3⟩
    replace hC := (hC.below b3 hC.lt).alloc (.cells #[.int .i64 yt.1.1, .int .i64 yt.1.2.1, .bool yt.1.2.2] 28)
    replace hQ := (hQ.below b3 hQ.lt).alloc (.cells #[.int .i64 yt.1.1, .int .i64 yt.1.2.1, .bool yt.1.2.2] 28)
    replace hP := (hP.below b3 hP.lt).alloc (.cells #[.int .i64 yt.1.1, .int .i64 yt.1.2.1, .bool yt.1.2.2] 28)
    have hT := Blk.new w3 28 #[.int .i64 yt.1.1, .int .i64 yt.1.2.1, .bool yt.1.2.2]
    replace hB := balloc (bnext hB b3) (.cells #[.int .i64 yt.1.1, .int .i64 yt.1.2.1, .bool yt.1.2.2] 28)
    clear b3 HX3
    clear k0 k1 k2 k3 k4 k5 k6 k7 k8 q0 q1 q2
    have hnn : (nx != nx) = false := by simp
    go_wp2_with fail
    obtain ⟨w4, hw4⟩ : ∃ w4, w4 = w3.alloc (.cells #[.int .i64 yt.1.1, .int .i64 yt.1.2.1, .bool yt.1.2.2] 28) := ⟨_, rfl⟩
    rw [← hw4] at hC hQ hP hT hB ⊢
    clear hw4
    have q0 := fun v : Sub w4 => ((hQ).below v.2 (hQ).lt).cell 0
    have q1 := fun v : Sub w4 => ((hQ).below v.2 (hQ).lt).cell 1
    have q2 := fun v : Sub w4 => ((hQ).below v.2 (hQ).lt).cell 2
    simp only [List.getElem?_toArray, List.getElem?_cons_zero, List.getElem?_cons_succ] at q0 q1 q2
    have hne : Nonempty (Sub w4) := ⟨⟨_, Below.refl _ _⟩⟩
    refine region_sub (by kernel_rfl) (by kernel_rfl) ?_
    repeat (first | go_big_quiet_step (((first | (go_at_call 16; exact sub_below (HN1.out _)) | (go_at_call 17; exact sub_below (HN2.out _))))) | quiet_step (((first | (go_at_call 16; exact sub_below (HN1.out _)) | (go_at_call 17; exact sub_below (HN2.out _))))))
    refine wpQuiet_nil ?_
    rintro _ ⟨v, rfl⟩
    replace hC := hC.below v.2 hC.lt
    replace hQ := hQ.below v.2 hQ.lt
    replace hP := hP.below v.2 hP.lt
    replace hT := hT.below v.2 hT.lt
    replace hB := bnext hB v.2
    clear q0 q1 q2
    have k0 := (hC).cell 0
    have k1 := (hC).cell 1
    have k2 := (hC).cell 2
    have k3 := (hC).cell 3
    have k4 := (hC).cell 4
    have k5 := (hC).cell 5
    have k6 := (hC).cell 6
    have k7 := (hC).cell 7
    have k8 := (hC).cell 8
    simp only [List.getElem?_toArray, List.getElem?_cons_zero, List.getElem?_cons_succ] at k0 k1 k2 k3 k4 k5 k6 k7 k8
    have q0 := (hQ).cell 0
    have q1 := (hQ).cell 1
    have q2 := (hQ).cell 2
    simp only [List.getElem?_toArray, List.getElem?_cons_zero, List.getElem?_cons_succ] at q0 q1 q2
    have HX4 := Lib.hid hB
    go_wp2_with fail
    refine (HAS'.out _ HX4.out).mono ?_
    rintro e w5 ⟨rfl, b5⟩
    replace hC := hC.below b5 hC.lt
    replace hQ := hQ.below b5 hQ.lt
    replace hP := hP.below b5 hP.lt
    replace hT := hT.below b5 hT.lt
    replace hB := bnext hB b5
    clear b5 HX4
    clear k0 k1 k2 k3 k4 k5 k6 k7 k8 q0 q1 q2
    have k0 := (hC).cell 0
    have k1 := (hC).cell 1
    have k2 := (hC).cell 2
    have k3 := (hC).cell 3
    have k4 := (hC).cell 4
    have k5 := (hC).cell 5
    have k6 := (hC).cell 6
    have k7 := (hC).cell 7
    have k8 := (hC).cell 8
    simp only [List.getElem?_toArray, List.getElem?_cons_zero, List.getElem?_cons_succ] at k0 k1 k2 k3 k4 k5 k6 k7 k8
    have q0 := (hQ).cell 0
    have q1 := (hQ).cell 1
    have q2 := (hQ).cell 2
    simp only [List.getElem?_toArray, List.getElem?_cons_zero, List.getElem?_cons_succ] at q0 q1 q2
    go_wp2_with fail
    refine (HRC'.out _).mono ?_
    rintro e w6 ⟨rfl, b6⟩
    replace hC := (hC.below b6 hC.lt).alloc (.cells #[.int .i64 yc.1.1, .int .i64 yc.1.2.1, .bool yc.1.2.2] 28)
    replace hQ := (hQ.below b6 hQ.lt).alloc (.cells #[.int .i64 yc.1.1, .int .i64 yc.1.2.1, .bool yc.1.2.2] 28)
    replace hP := (hP.below b6 hP.lt).alloc (.cells #[.int .i64 yc.1.1, .int .i64 yc.1.2.1, .bool yc.1.2.2] 28)
    replace hT := (hT.below b6 hT.lt).alloc (.cells #[.int .i64 yc.1.1, .int .i64 yc.1.2.1, .bool yc.1.2.2] 28)
    have hU := Blk.new w6 28 #[.int .i64 yc.1.1, .int .i64 yc.1.2.1, .bool yc.1.2.2]
    replace hB := balloc (bnext hB b6) (.cells #[.int .i64 yc.1.1, .int .i64 yc.1.2.1, .bool yc.1.2.2] 28)
    clear b6
    clear k0 k1 k2 k3 k4 k5 k6 k7 k8 q0 q1 q2
    have k0 := (hC).cell 0
    have k1 := (hC).cell 1
    have k2 := (hC).cell 2
    have k3 := (hC).cell 3
    have k4 := (hC).cell 4
    have k5 := (hC).cell 5
    have k6 := (hC).cell 6
    have k7 := (hC).cell 7
    have k8 := (hC).cell 8
    simp only [List.getElem?_toArray, List.getElem?_cons_zero, List.getElem?_cons_succ] at k0 k1 k2 k3 k4 k5 k6 k7 k8
    have q0 := (hQ).cell 0
    have q1 := (hQ).cell 1
    have q2 := (hQ).cell 2
    simp only [List.getElem?_toArray, List.getElem?_cons_zero, List.getElem?_cons_succ] at q0 q1 q2
    go_wp2_with fail
    refine (HRT'.out _).mono ?_
    rintro e w7 ⟨rfl, b7⟩
    replace hP := (hP.below b7 hP.lt).alloc (.cells #[.int .i64 yt.1.1, .int .i64 yt.1.2.1, .bool yt.1.2.2] 28)
    replace hT := (hT.below b7 hT.lt).alloc (.cells #[.int .i64 yt.1.1, .int .i64 yt.1.2.1, .bool yt.1.2.2] 28)
    replace hU := (hU.below b7 hU.lt).alloc (.cells #[.int .i64 yt.1.1, .int .i64 yt.1.2.1, .bool yt.1.2.2] 28)
    have hV := Blk.new w7 28 #[.int .i64 yt.1.1, .int .i64 yt.1.2.1, .bool yt.1.2.2]
    replace hB := balloc (bnext hB b7) (.cells #[.int .i64 yt.1.1, .int .i64 yt.1.2.1, .bool yt.1.2.2] 28)
    clear b7 hC hQ
    clear k0 k1 k2 k3 k4 k5 k6 k7 k8 q0 q1 q2
    have d0 := (hP).cell 0
    have d1 := (hP).cell 1
    have d2 := (hP).cell 2
    simp only [List.getElem?_toArray, List.getElem?_cons_zero, List.getElem?_cons_succ] at d0 d1 d2
    have f0 := (hT).cell 0
    have f1 := (hT).cell 1
    have f2 := (hT).cell 2
    simp only [List.getElem?_toArray, List.getElem?_cons_zero, List.getElem?_cons_succ] at f0 f1 f2
    have g0 := (hU).cell 0
    have g1 := (hU).cell 1
    have g2 := (hU).cell 2
    simp only [List.getElem?_toArray, List.getElem?_cons_zero, List.getElem?_cons_succ] at g0 g1 g2
    have m0 := (hV).cell 0
    have m1 := (hV).cell 1
    have m2 := (hV).cell 2
    simp only [List.getElem?_toArray, List.getElem?_cons_zero, List.getElem?_cons_succ] at m0 m1 m2
    have HX5 := Lib.hid hB
    go_wp2_with (first | (go_at_call 12; refine (num_any _ _).mono ?_; rintro e w' ⟨rfl, rfl⟩) | (go_at_call 9; refine (HWK.out _ HX5.out).mono ?_; rintro e w8 ⟨rfl, b8⟩))
    go_ret
    exact ⟨rfl, bnext HX5.out b8⟩
end Go.Proofs.YtlgkjboamfgbeaaDoor
