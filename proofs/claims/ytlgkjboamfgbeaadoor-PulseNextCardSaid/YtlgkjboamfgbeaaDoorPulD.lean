/- PulseNext: the walk. -/
import Derived.Test.YtlgkjboamfgbeaaDoorPulW
namespace Go.Proofs.YtlgkjboamfgbeaaDoor
set_option linter.unusedVariables false
set_option linter.unusedSimpArgs false
open Go.RowKit
set_option maxRecDepth 100000

/-- at Next something is told -/
theorem next_beats (p j q s du un dr : Int) (wt : Bool) (h : (okT du && okT un) = true) : ∃ a b kk, tckF p j q s du un wt (nxtF du un wt) dr = ((a, b, false), kk) ∧ (kk == 0) = false := by
  unfold nxtF
  rw [if_pos h]
  cases wt
  · refine ⟨_, _, 2, if_pos (by simp), rfl⟩
  · simp only [if_true]
    unfold tckF
    by_cases hd : du ≤ min du un
    · rw [if_pos hd]
      exact ⟨_, _, 2, rfl, rfl⟩
    · rw [if_neg hd, if_pos rfl]
      unfold chgF
      rw [if_pos (by omega)]
      exact ⟨_, _, 1, rfl, rfl⟩
/-- ahead of Next nothing is told -/
theorem next_still (p j q s du un dr ah : Int) (wt : Bool) (h : (okT du && okT un) = true) (ha : 1 ≤ ah) : tckF p j q s du un wt (nxtF du un wt - ah) dr = ((du, un, wt), 0) := by
  unfold nxtF
  rw [if_pos h]
  cases wt
  · unfold tckF
    rw [if_neg (by simp only [Bool.false_eq_true, if_false]; omega)]
    rfl
  · simp only [if_true]
    unfold tckF chgF
    rw [if_neg (by omega), if_pos rfl, if_neg (by omega)]
theorem next_range (du un : Int) (wt : Bool) (h : (okT du && okT un) = true) : 0 ≤ nxtF du un wt ∧ nxtF du un wt ≤ 4611686018427387904 := by
  simp only [Bool.and_eq_true] at h
  have h1 : 0 ≤ du ∧ du ≤ 4611686018427387904 := of_decide_eq_true h.1
  have h2 : 0 ≤ un ∧ un ≤ 4611686018427387904 := of_decide_eq_true h.2
  unfold nxtF
  rw [if_pos (by simp [h])]
  split <;> omega
theorem okN_of (x : Int) (h0 : 0 ≤ x) (h1 : x ≤ 2305843009213693952) : okN x = true := decide_eq_true ⟨h0, by omega⟩

set_option maxHeartbeats 4000000 in
theorem pulsenext_walk (p j t h g q s cp : Int) (du un ah dr : Int) (wt : Bool) (A : Option Addr) (n k : Nat) (l : List (Nat × Int)) (hn : l.length = n) (w : World) (hr : Rd w w.heap.size A (plC l)) (hnk : n ≤ k) (hk : k ≤ 9223372036854775807) (hl : ∀ x ∈ l, x.1 < 4294967296) (hw : CapsAt w) :
    Calls Tryd.prog 5 #[.agg #[.int .i64 p, .int .i64 j, .int .i64 t, .int .i64 h, .int .i64 g, .int .i64 q, .int .i64 s, .int .i64 cp, .slice A n k], .agg #[.int .i64 du, .int .i64 un, .bool wt], .int .i64 ah, .int .i64 dr] w fun e w' => e = .returned (.bool true) ∧ Below w.heap.size w w' := by
  have HBG := Lib.hid (fun nw dr W (hb : Below w.heap.size w W) => begin_any p j t h g q s cp A n k w.heap.size l hn nw dr W (hr.below hb) hb.size hnk hk hl (hw.below hb))
  have HCH := Lib.hid (fun du un nw dr wt W (hb : Below w.heap.size w W) => pchange_any p j t h g q s cp A n k w.heap.size l hn du un nw dr wt W (hr.below hb) hb.size hnk hk hl (hw.below hb))
  have HTK := Lib.hid (fun du un nw dr wt W (hb : Below w.heap.size w W) => ptick_any p j t h g q s cp A n k w.heap.size l hn du un nw dr wt W (hr.below hb) hb.size hnk hk hl (hw.below hb))
  have HAS := Lib.hid (fun du un nw wt W (hb : Below w.heap.size w W) => asked_any p j t h g q s cp A n k w.heap.size l hn du un nw wt W (hr.below hb) hb.size hnk hk hl)
  have HRG := Lib.hid (fun W (hb : Below w.heap.size w W) => right8_any p j t h g q s cp A n k w.heap.size l hn W (hr.below hb) hb.size hnk hk hl)
  have HWK := Lib.hid (fun W (hb : Below w.heap.size w W) => works15_any W (hw.below hb))
  have hbd := okC_bounds (p := p) (j := j) (t := t) (h := h) (g := g) (q := q) (s := s) (cp := cp) (l := l)
  have hC0 := (Blk.new w 24 #[.int .i64 p, .int .i64 j, .int .i64 t, .int .i64 h, .int .i64 g, .int .i64 q, .int .i64 s, .int .i64 cp, .slice A n k]).alloc (.cells #[.int .i64 du, .int .i64 un, .bool wt] 28)
  have hQ0 := Blk.new (w.alloc (.cells #[.int .i64 p, .int .i64 j, .int .i64 t, .int .i64 h, .int .i64 g, .int .i64 q, .int .i64 s, .int .i64 cp, .slice A n k] 24)) 28 #[.int .i64 du, .int .i64 un, .bool wt]
  rw [World.size_alloc] at hQ0
  have hB0 : Below w.heap.size w ((w.alloc (.cells #[.int .i64 p, .int .i64 j, .int .i64 t, .int .i64 h, .int .i64 g, .int .i64 q, .int .i64 s, .int .i64 cp, .slice A n k] 24)).alloc (.cells #[.int .i64 du, .int .i64 un, .bool wt] 28)) := balloc (balloc (Below.refl _ _) _) _
  clear hr hl hw HRG HBG HCH
  by_cases h20 : n ≤ 20
  case neg =>
    go_enter Tryd.func5, Tryd.ntmps5
    go_wp2_with fail
    refine (few15_any p j t h g q s cp A n k _).mono ?_
    rintro e w1 ⟨rfl, b1⟩
    rw [decide_eq_false h20]
    have HX := Lib.hid (bnext hB0 b1)
    go_wp2_with fail
    refine (HWK.out _ HX.out).mono ?_
    rintro e w2 ⟨rfl, b2⟩
    go_wp2_with fail
    go_ret
    exact ⟨rfl, bnext HX.out b2⟩
  case pos =>
  have HAS' := Lib.hid (fun W hb => HAS.out du un 0 wt W hb)
  have HTA := Lib.hid (fun W hb => HTK.out du un (nxtF du un wt) dr wt W hb)
  have HTB := Lib.hid (fun W hb => HTK.out du un (nxtF du un wt - ah) dr wt W hb)
  have HN1 := Lib.hid (fun W => pnext_any du un wt W)
  have HN2 := Lib.hid (fun W => rnext_any du un wt W)
  clear HTK HAS hbd
  rw [show okN 0 = true from rfl] at HAS'
  have hE := askE_cases (okC p j t h g q s cp l) (okT du && okT un) true
  by_cases hz : askE (okC p j t h g q s cp l) (okT du && okT un) true = 0
  case neg =>
    clear HTA HTB HN1 HN2
    generalize askE (okC p j t h g q s cp l) (okT du && okT un) true = er at *
    have hz' : (er != 0) = true := by simpa using hz
    clear hE hz
    go_enter Tryd.func5, Tryd.ntmps5
    go_wp2_with fail
    refine (few15_any p j t h g q s cp A n k _).mono ?_
    rintro e w1 ⟨rfl, b1⟩
    rw [decide_eq_true h20]
    have hC := hC0.below b1 hC0.lt
    have hQ := hQ0.below b1 hQ0.lt
    have hB := bnext hB0 b1
    clear b1 hC0 hB0 hQ0
    have k0 := (hC).cell 0
    have k1 := (hC).cell 1
    have k2 := (hC).cell 2
    have k3 := (hC).cell 3
    have k4 := (hC).cell 4
    have k5 := (hC).cell 5
    have k6 := (hC).cell 6
    have k7 := (hC).cell 7
    have k8 := (hC).cell 8
    simp only [List.getElem?_toArray, List.getElem?_cons_zero, List.getElem?_cons_succ] at k0 k1 k2 k3 k4 k5 k6 k7 k8
    have q0 := (hQ).cell 0
    have q1 := (hQ).cell 1
    have q2 := (hQ).cell 2
    simp only [List.getElem?_toArray, List.getElem?_cons_zero, List.getElem?_cons_succ] at q0 q1 q2
    have HX2 := Lib.hid hB
    go_wp2_with fail
    refine (HAS'.out _ HX2.out).mono ?_
    rintro e w2 ⟨rfl, b2⟩
    replace hC := hC.below b2 hC.lt
    replace hQ := hQ.below b2 hQ.lt
    replace hB := bnext hB b2
    clear b2 HX2
    clear k0 k1 k2 k3 k4 k5 k6 k7 k8 q0 q1 q2
    have HX3 := Lib.hid hB
    go_wp2_with fail
    refine (HWK.out _ HX3.out).mono ?_
    rintro e w3 ⟨rfl, b3⟩
    go_wp2_with fail
    go_ret
    exact ⟨rfl, bnext HX3.out b3⟩
  case pos =>
  rw [hz] at HAS'
  have hop : okC p j t h g q s cp l = true ∧ (okT du && okT un) = true := by
    rcases hE with h | h | ⟨_, h1, h2, _⟩
    · omega
    · omega
    · exact ⟨h1, h2⟩
  have hnr := next_range du un wt hop.2
  obtain ⟨ya, yb, yk, hyt, hyk⟩ := next_beats p j q s du un dr wt hop.2
  have hst := fun ha => next_still p j q s du un dr ah wt hop.2 ha
  rw [hop.1, hop.2, hyt] at HTA
  rw [hop.1, hop.2] at HTB
  generalize hnx : nxtF du un wt = nx at *
  clear hE hz hnx hyt hop
  by_cases hbig : 2305843009213693952 < nx
  case pos =>
    clear HTA HTB hst
    have hnn : (nx == nx) = true := by simp
    have hn1 : decide (nx < 0) = false := decide_eq_false (by omega)
    go_enter Tryd.func5, Tryd.ntmps5
    go_wp2_with fail
    refine (few15_any p j t h g q s cp A n k _).mono ?_
    rintro e w1 ⟨rfl, b1⟩
    rw [decide_eq_true h20]
    have hC := hC0.below b1 hC0.lt
    have hQ := hQ0.below b1 hQ0.lt
    have hB := bnext hB0 b1
    clear b1 hC0 hB0 hQ0
    have k0 := (hC).cell 0
    have k1 := (hC).cell 1
    have k2 := (hC).cell 2
    have k3 := (hC).cell 3
    have k4 := (hC).cell 4
    have k5 := (hC).cell 5
    have k6 := (hC).cell 6
    have k7 := (hC).cell 7
    have k8 := (hC).cell 8
    simp only [List.getElem?_toArray, List.getElem?_cons_zero, List.getElem?_cons_succ] at k0 k1 k2 k3 k4 k5 k6 k7 k8
    have q0 := (hQ).cell 0
    have q1 := (hQ).cell 1
    have q2 := (hQ).cell 2
    simp only [List.getElem?_toArray, List.getElem?_cons_zero, List.getElem?_cons_succ] at q0 q1 q2
    have HX2 := Lib.hid hB
    go_wp2_with fail
    refine (HAS'.out _ HX2.out).mono ?_
    rintro e w2 ⟨rfl, b2⟩
    replace hC := hC.below b2 hC.lt
    replace hQ := hQ.below b2 hQ.lt
    replace hB := bnext hB b2
    clear b2 HX2
    clear k0 k1 k2 k3 k4 k5 k6 k7 k8 q0 q1 q2
    have q0 := (hQ).cell 0
    have q1 := (hQ).cell 1
    have q2 := (hQ).cell 2
    simp only [List.getElem?_toArray, List.getElem?_cons_zero, List.getElem?_cons_succ] at q0 q1 q2
    go_wp2_with fail
    refine (HN1.out _).mono ?_
    rintro e w3 ⟨rfl, b3⟩
    replace hQ := hQ.below b3 hQ.lt
    replace hB := bnext hB b3
    clear b3
    clear q0 q1 q2
    have q0 := (hQ).cell 0
    have q1 := (hQ).cell 1
    have q2 := (hQ).cell 2
    simp only [List.getElem?_toArray, List.getElem?_cons_zero, List.getElem?_cons_succ] at q0 q1 q2
    go_wp2_with fail
    refine (HN2.out _).mono ?_
    rintro e w4 ⟨rfl, b4⟩
    replace hB := bnext hB b4
    clear b4
    have HX4 := Lib.hid hB
    go_wp2_with fail
    refine (HWK.out _ HX4.out).mono ?_
    rintro e w5 ⟨rfl, b5⟩
    go_wp2_with fail
    go_ret
    exact ⟨rfl, bnext HX4.out b5⟩
  case neg =>
  rw [okN_of nx (by omega) (by omega)] at HTA
  rw [show askE true true true = 0 from rfl, show pres 0 ((ya, yb, false), yk) = ((ya, yb, false), yk) from rfl] at HTA
  unfold GivesP at HTA
  simp only at HTA
  have hn1 : decide (nx < 0) = false := decide_eq_false (by omega)
  have hn2 : decide (2305843009213693952 < nx) = false := decide_eq_false (by omega)
  by_cases hah : 1 ≤ ah ∧ ah ≤ nx
  case neg =>
    clear HTB hst HN2
    by_cases ha1 : ah < 1
    all_goals
      first | (have hb1 : decide (ah < 1) = true := decide_eq_true ha1) | (have hb1 : decide (ah < 1) = false := decide_eq_false ha1; have hb2 : decide (nx < ah) = true := decide_eq_true (by omega))
      clear hah
      go_enter Tryd.func5, Tryd.ntmps5
      go_wp2_with fail
      refine (few15_any p j t h g q s cp A n k _).mono ?_
      rintro e w1 ⟨rfl, b1⟩
      rw [decide_eq_true h20]
      have hC := hC0.below b1 hC0.lt
      have hQ := hQ0.below b1 hQ0.lt
      have hB := bnext hB0 b1
      clear b1 hC0 hB0 hQ0
      have k0 := (hC).cell 0
      have k1 := (hC).cell 1
      have k2 := (hC).cell 2
      have k3 := (hC).cell 3
      have k4 := (hC).cell 4
      have k5 := (hC).cell 5
      have k6 := (hC).cell 6
      have k7 := (hC).cell 7
      have k8 := (hC).cell 8
      simp only [List.getElem?_toArray, List.getElem?_cons_zero, List.getElem?_cons_succ] at k0 k1 k2 k3 k4 k5 k6 k7 k8
      have q0 := (hQ).cell 0
      have q1 := (hQ).cell 1
      have q2 := (hQ).cell 2
      simp only [List.getElem?_toArray, List.getElem?_cons_zero, List.getElem?_cons_succ] at q0 q1 q2
      have HX2 := Lib.hid hB
      go_wp2_with fail
      refine (HAS'.out _ HX2.out).mono ?_
      rintro e w2 ⟨rfl, b2⟩
      replace hC := hC.below b2 hC.lt
      replace hQ := hQ.below b2 hQ.lt
      replace hB := bnext hB b2
      clear b2 HX2
      clear k0 k1 k2 k3 k4 k5 k6 k7 k8 q0 q1 q2
      have q0 := (hQ).cell 0
      have q1 := (hQ).cell 1
      have q2 := (hQ).cell 2
      simp only [List.getElem?_toArray, List.getElem?_cons_zero, List.getElem?_cons_succ] at q0 q1 q2
      go_wp2_with fail
      refine (HN1.out _).mono ?_
      rintro e w3 ⟨rfl, b3⟩
      replace hC := hC.below b3 hC.lt
      replace hQ := hQ.below b3 hQ.lt
      replace hB := bnext hB b3
      clear b3
      clear q0 q1 q2
      have k0 := (hC).cell 0
      have k1 := (hC).cell 1
      have k2 := (hC).cell 2
      have k3 := (hC).cell 3
      have k4 := (hC).cell 4
      have k5 := (hC).cell 5
      have k6 := (hC).cell 6
      have k7 := (hC).cell 7
      have k8 := (hC).cell 8
      simp only [List.getElem?_toArray, List.getElem?_cons_zero, List.getElem?_cons_succ] at k0 k1 k2 k3 k4 k5 k6 k7 k8
      have q0 := (hQ).cell 0
      have q1 := (hQ).cell 1
      have q2 := (hQ).cell 2
      simp only [List.getElem?_toArray, List.getElem?_cons_zero, List.getElem?_cons_succ] at q0 q1 q2
      have HX4 := Lib.hid hB
      go_wp2_with fail
      refine (HTA.out _ HX4.out).mono ?_
      rintro e w4 ⟨rfl, b4⟩
      replace hC := (hC.below b4 hC.lt).alloc (.cells #[.int .i64 ya, .int .i64 yb, .bool false] 28)
      replace hQ := (hQ.below b4 hQ.lt).alloc (.cells #[.int .i64 ya, .int .i64 yb, .bool false] 28)
      have hP := Blk.new w4 28 #[.int .i64 ya, .int .i64 yb, .bool false]
      replace hB := balloc (bnext hB b4) (.cells #[.int .i64 ya, .int .i64 yb, .bool false] 28)
      clear b4 HX4
      clear k0 k1 k2 k3 k4 k5 k6 k7 k8 q0 q1 q2
      have k0 := (hC).cell 0
      have k1 := (hC).cell 1
      have k2 := (hC).cell 2
      have k3 := (hC).cell 3
      have k4 := (hC).cell 4
      have k5 := (hC).cell 5
      have k6 := (hC).cell 6
      have k7 := (hC).cell 7
      have k8 := (hC).cell 8
      simp only [List.getElem?_toArray, List.getElem?_cons_zero, List.getElem?_cons_succ] at k0 k1 k2 k3 k4 k5 k6 k7 k8
      have q0 := (hQ).cell 0
      have q1 := (hQ).cell 1
      have q2 := (hQ).cell 2
      simp only [List.getElem?_toArray, List.getElem?_cons_zero, List.getElem?_cons_succ] at q0 q1 q2
      have d0 := (hP).cell 0
      have d1 := (hP).cell 1
      have d2 := (hP).cell 2
      simp only [List.getElem?_toArray, List.getElem?_cons_zero, List.getElem?_cons_succ] at d0 d1 d2
      have HX5 := Lib.hid hB
      go_wp2_with (first | (go_at_call 12; refine (num_any _ _).mono ?_; rintro e w' ⟨rfl, rfl⟩) | (go_at_call 9; refine (HWK.out _ HX5.out).mono ?_; rintro e w6 ⟨rfl, b6⟩))
      go_ret
      exact ⟨rfl, bnext HX5.out b6⟩
  case pos =>
  rw [hst hah.1, okN_of (nx - ah) (by omega) (by omega)] at HTB
  rw [show askE true true true = 0 from rfl, show pres 0 ((du, un, wt), 0) = ((du, un, wt), 0) from rfl] at HTB
  unfold GivesP at HTB
  simp only at HTB
  have hb1 : decide (ah < 1) = false := decide_eq_false (by omega)
  have hb2 : decide (nx < ah) = false := decide_eq_false (by omega)
  have hEQ : ∀ (a b : Int) (c : Bool) (w : World), (binOp .eql 28 (.agg #[.int .i64 a, .int .i64 b, .bool c]) (.agg #[.int .i64 a, .int .i64 b, .bool c])).run Tryd.prog w = .ok (.bool true) w := fun a b c w => by
    rw [eq_pulse]; simp
  clear hst HN2
  obtain ⟨ha1, ha2⟩ := hah
  go_enter Tryd.func5, Tryd.ntmps5
  go_wp2_with fail
  refine (few15_any p j t h g q s cp A n k _).mono ?_
  rintro e w1 ⟨rfl, b1⟩
  rw [decide_eq_true h20]
  have hC := hC0.below b1 hC0.lt
  have hQ := hQ0.below b1 hQ0.lt
  have hB := bnext hB0 b1
  clear b1 hC0 hB0 hQ0
  have k0 := (hC).cell 0
  have k1 := (hC).cell 1
  have k2 := (hC).cell 2
  have k3 := (hC).cell 3
  have k4 := (hC).cell 4
  have k5 := (hC).cell 5
  have k6 := (hC).cell 6
  have k7 := (hC).cell 7
  have k8 := (hC).cell 8
  simp only [List.getElem?_toArray, List.getElem?_cons_zero, List.getElem?_cons_succ] at k0 k1 k2 k3 k4 k5 k6 k7 k8
  have q0 := (hQ).cell 0
  have q1 := (hQ).cell 1
  have q2 := (hQ).cell 2
  simp only [List.getElem?_toArray, List.getElem?_cons_zero, List.getElem?_cons_succ] at q0 q1 q2
  have HX2 := Lib.hid hB
  go_wp2_with fail
  refine (HAS'.out _ HX2.out).mono ?_
  rintro e w2 ⟨rfl, b2⟩
  replace hC := hC.below b2 hC.lt
  replace hQ := hQ.below b2 hQ.lt
  replace hB := bnext hB b2
  clear b2 HX2
  clear k0 k1 k2 k3 k4 k5 k6 k7 k8 q0 q1 q2
  have q0 := (hQ).cell 0
  have q1 := (hQ).cell 1
  have q2 := (hQ).cell 2
  simp only [List.getElem?_toArray, List.getElem?_cons_zero, List.getElem?_cons_succ] at q0 q1 q2
  go_wp2_with fail
  refine (HN1.out _).mono ?_
  rintro e w3 ⟨rfl, b3⟩
  replace hC := hC.below b3 hC.lt
  replace hQ := hQ.below b3 hQ.lt
  replace hB := bnext hB b3
  clear b3
  clear q0 q1 q2
  have k0 := (hC).cell 0
  have k1 := (hC).cell 1
  have k2 := (hC).cell 2
  have k3 := (hC).cell 3
  have k4 := (hC).cell 4
  have k5 := (hC).cell 5
  have k6 := (hC).cell 6
  have k7 := (hC).cell 7
  have k8 := (hC).cell 8
  simp only [List.getElem?_toArray, List.getElem?_cons_zero, List.getElem?_cons_succ] at k0 k1 k2 k3 k4 k5 k6 k7 k8
  have q0 := (hQ).cell 0
  have q1 := (hQ).cell 1
  have q2 := (hQ).cell 2
  simp only [List.getElem?_toArray, List.getElem?_cons_zero, List.getElem?_cons_succ] at q0 q1 q2
  have HX4 := Lib.hid hB
  go_wp2_with fail
  refine (HTA.out _ HX4.out).mono ?_
  rintro e w4 ⟨rfl, b4⟩
  replace hC := (hC.below b4 hC.lt).alloc (.cells #[.int .i64 ya, .int .i64 yb, .bool false] 28)
  replace hQ := (hQ.below b4 hQ.lt).alloc (.cells #[.int .i64 ya, .int .i64 yb, .bool false] 28)
  have hP := Blk.new w4 28 #[.int .i64 ya, .int .i64 yb, .bool false]
  replace hB := balloc (bnext hB b4) (.cells #[.int .i64 ya, .int .i64 yb, .bool false] 28)
  clear b4 HX4
  clear k0 k1 k2 k3 k4 k5 k6 k7 k8 q0 q1 q2
  have k0 := (hC).cell 0
  have k1 := (hC).cell 1
  have k2 := (hC).cell 2
  have k3 := (hC).cell 3
  have k4 := (hC).cell 4
  have k5 := (hC).cell 5
  have k6 := (hC).cell 6
  have k7 := (hC).cell 7
  have k8 := (hC).cell 8
  simp only [List.getElem?_toArray, List.getElem?_cons_zero, List.getElem?_cons_succ] at k0 k1 k2 k3 k4 k5 k6 k7 k8
  have q0 := (hQ).cell 0
  have q1 := (hQ).cell 1
  have q2 := (hQ).cell 2
  simp only [List.getElem?_toArray, List.getElem?_cons_zero, List.getElem?_cons_succ] at q0 q1 q2
  have d0 := (hP).cell 0
  have d1 := (hP).cell 1
  have d2 := (hP).cell 2
  simp only [List.getElem?_toArray, List.getElem?_cons_zero, List.getElem?_cons_succ] at d0 d1 d2
  have HX5 := Lib.hid hB
  go_wp2_with (first | (go_at_call 12; refine (num_any _ _).mono ?_; rintro e w' ⟨rfl, rfl⟩))
  refine (HTB.out _ HX5.out).mono ?_
  rintro e w5 ⟨rfl, b5⟩
  replace hQ := (hQ.below b5 hQ.lt).alloc (.cells #[.int .i64 du, .int .i64 un, .bool wt] 28)
  have hU := Blk.new w5 28 #[.int .i64 du, .int .i64 un, .bool wt]
  replace hB := balloc (bnext hB b5) (.cells #[.int .i64 du, .int .i64 un, .bool wt] 28)
  clear b5 HX5 hC hP
  clear k0 k1 k2 k3 k4 k5 k6 k7 k8 q0 q1 q2 d0 d1 d2
  have q0 := (hQ).cell 0
  have q1 := (hQ).cell 1
  have q2 := (hQ).cell 2
  simp only [List.getElem?_toArray, List.getElem?_cons_zero, List.getElem?_cons_succ] at q0 q1 q2
  have d0 := (hU).cell 0
  have d1 := (hU).cell 1
  have d2 := (hU).cell 2
  simp only [List.getElem?_toArray, List.getElem?_cons_zero, List.getElem?_cons_succ] at d0 d1 d2
  have HX6 := Lib.hid hB
  go_wp2_with (first | (go_at_call 12; refine (num_any _ _).mono ?_; rintro e w' ⟨rfl, rfl⟩) | (go_at_call 9; refine (HWK.out _ HX6.out).mono ?_; rintro e w6 ⟨rfl, b6⟩))
  go_ret
  exact ⟨rfl, bnext HX6.out b6⟩
end Go.Proofs.YtlgkjboamfgbeaaDoor
