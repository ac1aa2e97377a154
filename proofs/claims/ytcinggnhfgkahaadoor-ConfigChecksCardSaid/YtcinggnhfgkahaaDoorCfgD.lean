/- ConfigChecks: the walk. -/
import Derived.Test.YtcinggnhfgkahaaDoorCfgC
import Derived.Test.YtcinggnhfgkahaaDoorCfgL
namespace Go.Proofs.YtcinggnhfgkahaaDoor
set_option linter.unusedVariables false
set_option linter.unusedSimpArgs false
open Go.RowKit
set_option maxRecDepth 100000

set_option maxHeartbeats 8000000 in
theorem configchecks_walk (p j t h g q s cp : Int) (a : Nat) (m : Int) (A : Option Addr) (n k : Nat) (l : List (Nat × Int)) (hn : l.length = n) (w : World) (hr : Rd w w.heap.size A (plC l)) (hnk : n ≤ k) (hk : k ≤ 9223372036854775807) (hl : ∀ x ∈ l, x.1 < 4294967296) (hw : CapsAt w) :
    Calls Tryd.prog 3 #[.agg #[.int .i64 p, .int .i64 j, .int .i64 t, .int .i64 h, .int .i64 g, .int .i64 q, .int .i64 s, .int .i64 cp, .slice A n k], .agg #[.int .u32 a, .int .i64 m]] w fun e w' => e = .returned (.bool true) ∧ Below w.heap.size w w' := by
  have HCK := Lib.hid (fun W (hb : Below w.heap.size w W) => ccheck_any p j t h g q s cp  A n k w.heap.size l hn W (hr.below hb) hb.size hnk hk hl (hw.below hb))
  have HRR := Lib.hid (fun W (hb : Below w.heap.size w W) => right8_any p j t h g q s cp  A n k w.heap.size l hn W (hr.below hb) hb.size hnk hk hl)
  have HOW := Lib.hid (fun W (hb : Below w.heap.size w W) => owns_any p j t h g q s cp l n hn A k w.heap.size a m W (hr.below hb) hb.size (by omega))
  have HRO := Lib.hid (fun (h63 : n ≤ 9223372036854775806) W (hb : Below w.heap.size w W) => rowns_any p j t h g q s cp l n hn A k w.heap.size a m W (hr.below hb) hb.size h63)
  have HS1 := Lib.hid (fun (h30 : n ≤ 30) hok W (hb : Below w.heap.size w W) => standard_ok l n hn A k w.heap.size W (hr.below hb) hb.size (by omega) hl (hw.below hb) hok)
  have HS2 := Lib.hid (fun (h30 : n ≤ 30) hok W (hb : Below w.heap.size w W) => standard_bad l n hn A k w.heap.size W (hr.below hb) hb.size (by omega) hl (hw.below hb) hok)
  have HR1 := Lib.hid (fun (h30 : n ≤ 30) hok W (hb : Below w.heap.size w W) => rstandard_ok l n hn A k w.heap.size W (hr.below hb) hb.size hnk hk (by omega) hl hok)
  have HR2 := Lib.hid (fun (h30 : n ≤ 30) hok W (hb : Below w.heap.size w W) => rstandard_bad l n hn A k w.heap.size W (hr.below hb) hb.size hnk hk hl hok)
  have HN := Lib.hid hn
  have HWK := Lib.hid (fun W (hb : Below w.heap.size w W) => works8_any W (hw.below hb))
  have hC0 := (Blk.new w 24 #[.int .i64 p, .int .i64 j, .int .i64 t, .int .i64 h, .int .i64 g, .int .i64 q, .int .i64 s, .int .i64 cp, .slice A n k]).alloc (.cells #[.int .u32 a, .int .i64 m] 28)
  have hP0 := Blk.new (w.alloc (.cells #[.int .i64 p, .int .i64 j, .int .i64 t, .int .i64 h, .int .i64 g, .int .i64 q, .int .i64 s, .int .i64 cp, .slice A n k] 24)) 28 #[.int .u32 a, .int .i64 m]
  rw [World.size_alloc] at hP0
  have hB0 : Below w.heap.size w ((w.alloc (.cells #[.int .i64 p, .int .i64 j, .int .i64 t, .int .i64 h, .int .i64 g, .int .i64 q, .int .i64 s, .int .i64 cp, .slice A n k] 24)).alloc (.cells #[.int .u32 a, .int .i64 m] 28)) := balloc (balloc (Below.refl _ _) _) _
  clear hr hl hw hn
  by_cases h30 : n ≤ 30
  case neg =>
    go_enter Tryd.func3, Tryd.ntmps3
    go_wp2_with fail
    refine (few_any p j t h g q s cp A n k _).mono ?_
    rintro e w1 ⟨rfl, b1⟩
    rw [decide_eq_false h30]
    have HX := Lib.hid (bnext hB0 b1)
    go_wp2_with fail
    refine (HWK.out _ HX.out).mono ?_
    rintro e w2 ⟨rfl, b2⟩
    go_wp2_with fail
    go_ret
    exact ⟨rfl, bnext HX.out b2⟩
  case pos =>
  replace HS1 := Lib.hid (HS1.out h30)
  replace HS2 := Lib.hid (HS2.out h30)
  replace HR1 := Lib.hid (HR1.out h30)
  replace HR2 := Lib.hid (HR2.out h30)
  replace HRO := Lib.hid (HRO.out (by omega))
  generalize okC p j t h g q s cp l = ok at *
  generalize decide ((a, m) ∈ l) = mem at *
  cases hstd : okC 25 10 180 120 120 1 4 256 l
  · have hmm : (mem == mem) = true := by simp
    replace HS2 := Lib.hid (HS2.out hstd)
    replace HR2 := Lib.hid (HR2.out hstd)
    clear HS1 HR1 hstd
    cases ok
    all_goals
      simp only [errC, if_true, Bool.false_eq_true, if_false] at HCK
      go_enter Tryd.func3, Tryd.ntmps3
      go_wp2_with fail
      refine (few_any p j t h g q s cp A n k _).mono ?_
      rintro e w1 ⟨rfl, b1⟩
      rw [decide_eq_true h30]
      have hC := hC0.below b1 hC0.lt
      have hP := hP0.below b1 hP0.lt
      have hB := bnext hB0 b1
      clear b1
      have k0 := (hC).cell 0
      have k1 := (hC).cell 1
      have k2 := (hC).cell 2
      have k3 := (hC).cell 3
      have k4 := (hC).cell 4
      have k5 := (hC).cell 5
      have k6 := (hC).cell 6
      have k7 := (hC).cell 7
      have k8 := (hC).cell 8
      simp only [List.getElem?_toArray, List.getElem?_cons_zero, List.getElem?_cons_succ] at k0 k1 k2 k3 k4 k5 k6 k7 k8
      have z0 := (hP).cell 0
      have z1 := (hP).cell 1
      simp only [List.getElem?_toArray, List.getElem?_cons_zero, List.getElem?_cons_succ] at z0 z1
      have HX2 := Lib.hid hB
      go_wp2_with fail
      refine (HCK.out _ HX2.out).mono ?_
      rintro e w2 ⟨rfl, b2⟩
      replace hC := hC.below b2 hC.lt
      replace hP := hP.below b2 hP.lt
      replace hB := bnext hB b2
      clear b2
      clear k0 k1 k2 k3 k4 k5 k6 k7 k8
      clear z0 z1
      have k0 := (hC).cell 0
      have k1 := (hC).cell 1
      have k2 := (hC).cell 2
      have k3 := (hC).cell 3
      have k4 := (hC).cell 4
      have k5 := (hC).cell 5
      have k6 := (hC).cell 6
      have k7 := (hC).cell 7
      have k8 := (hC).cell 8
      simp only [List.getElem?_toArray, List.getElem?_cons_zero, List.getElem?_cons_succ] at k0 k1 k2 k3 k4 k5 k6 k7 k8
      have z0 := (hP).cell 0
      have z1 := (hP).cell 1
      simp only [List.getElem?_toArray, List.getElem?_cons_zero, List.getElem?_cons_succ] at z0 z1
      clear HX2
      have HX3 := Lib.hid hB
      go_wp2_with (go_at_call 10; refine (num_any _ _).mono ?_; rintro e w' ⟨rfl, rfl⟩)
      refine (HS2.out _ HX3.out).mono ?_
      rintro e w3 ⟨rfl, b3⟩
      replace hC := hC.below b3 hC.lt
      replace hP := hP.below b3 hP.lt
      replace hB := bnext hB b3
      clear b3
      clear k0 k1 k2 k3 k4 k5 k6 k7 k8
      clear z0 z1
      have k0 := (hC).cell 0
      have k1 := (hC).cell 1
      have k2 := (hC).cell 2
      have k3 := (hC).cell 3
      have k4 := (hC).cell 4
      have k5 := (hC).cell 5
      have k6 := (hC).cell 6
      have k7 := (hC).cell 7
      have k8 := (hC).cell 8
      simp only [List.getElem?_toArray, List.getElem?_cons_zero, List.getElem?_cons_succ] at k0 k1 k2 k3 k4 k5 k6 k7 k8
      have z0 := (hP).cell 0
      have z1 := (hP).cell 1
      simp only [List.getElem?_toArray, List.getElem?_cons_zero, List.getElem?_cons_succ] at z0 z1
      clear HX3
      have hS := Blk.new w3 24 #[.int .i64 0, .int .i64 0, .int .i64 0, .int .i64 0, .int .i64 0, .int .i64 0, .int .i64 0, .int .i64 0, .slice none 0 0]
      replace hC := hC.alloc (.cells #[.int .i64 0, .int .i64 0, .int .i64 0, .int .i64 0, .int .i64 0, .int .i64 0, .int .i64 0, .int .i64 0, .slice none 0 0] 24)
      replace hP := hP.alloc (.cells #[.int .i64 0, .int .i64 0, .int .i64 0, .int .i64 0, .int .i64 0, .int .i64 0, .int .i64 0, .int .i64 0, .slice none 0 0] 24)
      replace hB := balloc hB (.cells #[.int .i64 0, .int .i64 0, .int .i64 0, .int .i64 0, .int .i64 0, .int .i64 0, .int .i64 0, .int .i64 0, .slice none 0 0] 24)
      clear k0 k1 k2 k3 k4 k5 k6 k7 k8
      clear z0 z1
      have k0 := (hC).cell 0
      have k1 := (hC).cell 1
      have k2 := (hC).cell 2
      have k3 := (hC).cell 3
      have k4 := (hC).cell 4
      have k5 := (hC).cell 5
      have k6 := (hC).cell 6
      have k7 := (hC).cell 7
      have k8 := (hC).cell 8
      simp only [List.getElem?_toArray, List.getElem?_cons_zero, List.getElem?_cons_succ] at k0 k1 k2 k3 k4 k5 k6 k7 k8
      have z0 := (hP).cell 0
      have z1 := (hP).cell 1
      simp only [List.getElem?_toArray, List.getElem?_cons_zero, List.getElem?_cons_succ] at z0 z1
      have HX4 := Lib.hid hB
      go_wp2_with fail
      have x0 := (hS).cell 0
      have x1 := (hS).cell 1
      have x2 := (hS).cell 2
      have x3 := (hS).cell 3
      have x4 := (hS).cell 4
      have x5 := (hS).cell 5
      have x6 := (hS).cell 6
      have x7 := (hS).cell 7
      have x8 := (hS).cell 8
      simp only [List.getElem?_toArray, List.getElem?_cons_zero, List.getElem?_cons_succ] at x0 x1 x2 x3 x4 x5 x6 x7 x8
      refine (HR2.out _ HX4.out).mono ?_
      rintro e w4 ⟨rfl, b4⟩
      replace hC := hC.below b4 hC.lt
      replace hP := hP.below b4 hP.lt
      replace hS := hS.below b4 hS.lt
      replace hB := bnext hB b4
      clear b4
      clear k0 k1 k2 k3 k4 k5 k6 k7 k8
      clear z0 z1
      clear x0 x1 x2 x3 x4 x5 x6 x7 x8
      have k0 := (hC).cell 0
      have k1 := (hC).cell 1
      have k2 := (hC).cell 2
      have k3 := (hC).cell 3
      have k4 := (hC).cell 4
      have k5 := (hC).cell 5
      have k6 := (hC).cell 6
      have k7 := (hC).cell 7
      have k8 := (hC).cell 8
      simp only [List.getElem?_toArray, List.getElem?_cons_zero, List.getElem?_cons_succ] at k0 k1 k2 k3 k4 k5 k6 k7 k8
      have z0 := (hP).cell 0
      have z1 := (hP).cell 1
      simp only [List.getElem?_toArray, List.getElem?_cons_zero, List.getElem?_cons_succ] at z0 z1
      have x0 := (hS).cell 0
      have x1 := (hS).cell 1
      have x2 := (hS).cell 2
      have x3 := (hS).cell 3
      have x4 := (hS).cell 4
      have x5 := (hS).cell 5
      have x6 := (hS).cell 6
      have x7 := (hS).cell 7
      have x8 := (hS).cell 8
      simp only [List.getElem?_toArray, List.getElem?_cons_zero, List.getElem?_cons_succ] at x0 x1 x2 x3 x4 x5 x6 x7 x8
      clear HX4
      have hT := Blk.new w4 24 #[.int .i64 0, .int .i64 0, .int .i64 0, .int .i64 0, .int .i64 0, .int .i64 0, .int .i64 0, .int .i64 0, .slice none 0 0]
      replace hC := hC.alloc (.cells #[.int .i64 0, .int .i64 0, .int .i64 0, .int .i64 0, .int .i64 0, .int .i64 0, .int .i64 0, .int .i64 0, .slice none 0 0] 24)
      replace hP := hP.alloc (.cells #[.int .i64 0, .int .i64 0, .int .i64 0, .int .i64 0, .int .i64 0, .int .i64 0, .int .i64 0, .int .i64 0, .slice none 0 0] 24)
      replace hS := hS.alloc (.cells #[.int .i64 0, .int .i64 0, .int .i64 0, .int .i64 0, .int .i64 0, .int .i64 0, .int .i64 0, .int .i64 0, .slice none 0 0] 24)
      replace hB := balloc hB (.cells #[.int .i64 0, .int .i64 0, .int .i64 0, .int .i64 0, .int .i64 0, .int .i64 0, .int .i64 0, .int .i64 0, .slice none 0 0] 24)
      clear k0 k1 k2 k3 k4 k5 k6 k7 k8
      clear z0 z1
      clear x0 x1 x2 x3 x4 x5 x6 x7 x8
      have k0 := (hC).cell 0
      have k1 := (hC).cell 1
      have k2 := (hC).cell 2
      have k3 := (hC).cell 3
      have k4 := (hC).cell 4
      have k5 := (hC).cell 5
      have k6 := (hC).cell 6
      have k7 := (hC).cell 7
      have k8 := (hC).cell 8
      simp only [List.getElem?_toArray, List.getElem?_cons_zero, List.getElem?_cons_succ] at k0 k1 k2 k3 k4 k5 k6 k7 k8
      have z0 := (hP).cell 0
      have z1 := (hP).cell 1
      simp only [List.getElem?_toArray, List.getElem?_cons_zero, List.getElem?_cons_succ] at z0 z1
      have x0 := (hS).cell 0
      have x1 := (hS).cell 1
      have x2 := (hS).cell 2
      have x3 := (hS).cell 3
      have x4 := (hS).cell 4
      have x5 := (hS).cell 5
      have x6 := (hS).cell 6
      have x7 := (hS).cell 7
      have x8 := (hS).cell 8
      simp only [List.getElem?_toArray, List.getElem?_cons_zero, List.getElem?_cons_succ] at x0 x1 x2 x3 x4 x5 x6 x7 x8
      go_wp2_with fail
      clear k0 k1 k2 k3 k4 k5 k6 k7 k8 z0 z1 x0 x1 x2 x3 x4 x5 x6 x7 x8
      obtain ⟨w5, hw5⟩ : ∃ w5, w5 = w4.alloc (.cells #[.int .i64 0, .int .i64 0, .int .i64 0, .int .i64 0, .int .i64 0, .int .i64 0, .int .i64 0, .int .i64 0, .slice none 0 0] 24) := ⟨_, rfl⟩
      rw [← hw5] at hC hP hS hT hB ⊢
      clear hw5
      have k0 := fun v : Sub w5 => ((hC).below v.2 (hC).lt).cell 0
      have k1 := fun v : Sub w5 => ((hC).below v.2 (hC).lt).cell 1
      have k2 := fun v : Sub w5 => ((hC).below v.2 (hC).lt).cell 2
      have k3 := fun v : Sub w5 => ((hC).below v.2 (hC).lt).cell 3
      have k4 := fun v : Sub w5 => ((hC).below v.2 (hC).lt).cell 4
      have k5 := fun v : Sub w5 => ((hC).below v.2 (hC).lt).cell 5
      have k6 := fun v : Sub w5 => ((hC).below v.2 (hC).lt).cell 6
      have k7 := fun v : Sub w5 => ((hC).below v.2 (hC).lt).cell 7
      have k8 := fun v : Sub w5 => ((hC).below v.2 (hC).lt).cell 8
      simp only [List.getElem?_toArray, List.getElem?_cons_zero, List.getElem?_cons_succ] at k0 k1 k2 k3 k4 k5 k6 k7 k8
      have z0 := fun v : Sub w5 => ((hP).below v.2 (hP).lt).cell 0
      have z1 := fun v : Sub w5 => ((hP).below v.2 (hP).lt).cell 1
      simp only [List.getElem?_toArray, List.getElem?_cons_zero, List.getElem?_cons_succ] at z0 z1
      have x0 := fun v : Sub w5 => ((hS).below v.2 (hS).lt).cell 0
      have x1 := fun v : Sub w5 => ((hS).below v.2 (hS).lt).cell 1
      have x2 := fun v : Sub w5 => ((hS).below v.2 (hS).lt).cell 2
      have x3 := fun v : Sub w5 => ((hS).below v.2 (hS).lt).cell 3
      have x4 := fun v : Sub w5 => ((hS).below v.2 (hS).lt).cell 4
      have x5 := fun v : Sub w5 => ((hS).below v.2 (hS).lt).cell 5
      have x6 := fun v : Sub w5 => ((hS).below v.2 (hS).lt).cell 6
      have x7 := fun v : Sub w5 => ((hS).below v.2 (hS).lt).cell 7
      have x8 := fun v : Sub w5 => ((hS).below v.2 (hS).lt).cell 8
      simp only [List.getElem?_toArray, List.getElem?_cons_zero, List.getElem?_cons_succ] at x0 x1 x2 x3 x4 x5 x6 x7 x8
      have y0 := fun v : Sub w5 => ((hT).below v.2 (hT).lt).cell 0
      have y1 := fun v : Sub w5 => ((hT).below v.2 (hT).lt).cell 1
      have y2 := fun v : Sub w5 => ((hT).below v.2 (hT).lt).cell 2
      have y3 := fun v : Sub w5 => ((hT).below v.2 (hT).lt).cell 3
      have y4 := fun v : Sub w5 => ((hT).below v.2 (hT).lt).cell 4
      have y5 := fun v : Sub w5 => ((hT).below v.2 (hT).lt).cell 5
      have y6 := fun v : Sub w5 => ((hT).below v.2 (hT).lt).cell 6
      have y7 := fun v : Sub w5 => ((hT).below v.2 (hT).lt).cell 7
      have y8 := fun v : Sub w5 => ((hT).below v.2 (hT).lt).cell 8
      simp only [List.getElem?_toArray, List.getElem?_cons_zero, List.getElem?_cons_succ] at y0 y1 y2 y3 y4 y5 y6 y7 y8
      have hne : Nonempty (Sub w5) := ⟨⟨_, Below.refl _ _⟩⟩
      have HSM := Lib.hid (fun v : Sub w5 => rsame8_any 0 0 0 0 0 0 0 0 0 0 0 0 0 0 0 0 none none 0 0 0 0 [] [] rfl rfl v.1 Rd.nil Rd.nil (by omega))
      simp only [beq_self_eq_true, Bool.and_self, decide_true] at HSM
      clear hC hP hS hT
      refine region_sub (by kernel_rfl) (by kernel_rfl) ?_
      repeat (first | go_big_quiet_step (((first | (go_at_call 10; exact sub_same (num_any _ _)) | (go_at_call 14; exact sub_below (HRR.out _ (bnext hB (Sub.le _)))) | (go_at_call 15; exact sub_below (HOW.out _ (bnext hB (Sub.le _)))) | (go_at_call 16; exact sub_below (HRO.out _ (bnext hB (Sub.le _)))) | (go_at_call 17; exact sub_below (HSM.out _)) | (go_at_call 9; exact sub_below (HWK.out _ (bnext hB (Sub.le _))))))) | quiet_step (((first | (go_at_call 10; exact sub_same (num_any _ _)) | (go_at_call 14; exact sub_below (HRR.out _ (bnext hB (Sub.le _)))) | (go_at_call 15; exact sub_below (HOW.out _ (bnext hB (Sub.le _)))) | (go_at_call 16; exact sub_below (HRO.out _ (bnext hB (Sub.le _)))) | (go_at_call 17; exact sub_below (HSM.out _)) | (go_at_call 9; exact sub_below (HWK.out _ (bnext hB (Sub.le _))))))))
      refine wpQuiet_nil ?_
      rintro _ ⟨v, rfl⟩
      go_wp2_with fail
      go_ret
      exact ⟨rfl, bnext hB v.2⟩
  · have hmm : (mem == mem) = true := by simp
    replace HS1 := Lib.hid (HS1.out hstd)
    replace HR1 := Lib.hid (HR1.out hstd)
    clear HS2 HR2 hstd
    cases ok
    all_goals
      simp only [errC, if_true, Bool.false_eq_true, if_false] at HCK
      go_enter Tryd.func3, Tryd.ntmps3
      go_wp2_with fail
      refine (few_any p j t h g q s cp A n k _).mono ?_
      rintro e w1 ⟨rfl, b1⟩
      rw [decide_eq_true h30]
      have hC := hC0.below b1 hC0.lt
      have hP := hP0.below b1 hP0.lt
      have hB := bnext hB0 b1
      clear b1
      have k0 := (hC).cell 0
      have k1 := (hC).cell 1
      have k2 := (hC).cell 2
      have k3 := (hC).cell 3
      have k4 := (hC).cell 4
      have k5 := (hC).cell 5
      have k6 := (hC).cell 6
      have k7 := (hC).cell 7
      have k8 := (hC).cell 8
      simp only [List.getElem?_toArray, List.getElem?_cons_zero, List.getElem?_cons_succ] at k0 k1 k2 k3 k4 k5 k6 k7 k8
      have z0 := (hP).cell 0
      have z1 := (hP).cell 1
      simp only [List.getElem?_toArray, List.getElem?_cons_zero, List.getElem?_cons_succ] at z0 z1
      have HX2 := Lib.hid hB
      go_wp2_with fail
      refine (HCK.out _ HX2.out).mono ?_
      rintro e w2 ⟨rfl, b2⟩
      replace hC := hC.below b2 hC.lt
      replace hP := hP.below b2 hP.lt
      replace hB := bnext hB b2
      clear b2
      clear k0 k1 k2 k3 k4 k5 k6 k7 k8
      clear z0 z1
      have k0 := (hC).cell 0
      have k1 := (hC).cell 1
      have k2 := (hC).cell 2
      have k3 := (hC).cell 3
      have k4 := (hC).cell 4
      have k5 := (hC).cell 5
      have k6 := (hC).cell 6
      have k7 := (hC).cell 7
      have k8 := (hC).cell 8
      simp only [List.getElem?_toArray, List.getElem?_cons_zero, List.getElem?_cons_succ] at k0 k1 k2 k3 k4 k5 k6 k7 k8
      have z0 := (hP).cell 0
      have z1 := (hP).cell 1
      simp only [List.getElem?_toArray, List.getElem?_cons_zero, List.getElem?_cons_succ] at z0 z1
      clear HX2
      have HX3 := Lib.hid hB
      go_wp2_with (go_at_call 10; refine (num_any _ _).mono ?_; rintro e w' ⟨rfl, rfl⟩)
      refine (HS1.out _ HX3.out).mono ?_
      rintro e w3 ⟨A1, c1, rfl, e1, e2, e3, b3⟩
      replace hC := hC.below b3 hC.lt
      replace hP := hP.below b3 hP.lt
      replace hB := bnext hB b3
      clear b3
      clear k0 k1 k2 k3 k4 k5 k6 k7 k8
      clear z0 z1
      have k0 := (hC).cell 0
      have k1 := (hC).cell 1
      have k2 := (hC).cell 2
      have k3 := (hC).cell 3
      have k4 := (hC).cell 4
      have k5 := (hC).cell 5
      have k6 := (hC).cell 6
      have k7 := (hC).cell 7
      have k8 := (hC).cell 8
      simp only [List.getElem?_toArray, List.getElem?_cons_zero, List.getElem?_cons_succ] at k0 k1 k2 k3 k4 k5 k6 k7 k8
      have z0 := (hP).cell 0
      have z1 := (hP).cell 1
      simp only [List.getElem?_toArray, List.getElem?_cons_zero, List.getElem?_cons_succ] at z0 z1
      clear HX3
      have hS := Blk.new w3 24 #[.int .i64 25, .int .i64 10, .int .i64 180, .int .i64 120, .int .i64 120, .int .i64 1, .int .i64 4, .int .i64 256, .slice A1 n c1]
      have hr1 : Rd (w3.alloc (.cells #[.int .i64 25, .int .i64 10, .int .i64 180, .int .i64 120, .int .i64 120, .int .i64 1, .int .i64 4, .int .i64 256, .slice A1 n c1] 24)) w3.heap.size A1 (plC l) := e3.alloc (Nat.le_refl _) _
      have hs1 : w3.heap.size ≤ (w3.alloc (.cells #[.int .i64 25, .int .i64 10, .int .i64 180, .int .i64 120, .int .i64 120, .int .i64 1, .int .i64 4, .int .i64 256, .slice A1 n c1] 24)).heap.size := by simp
      replace hC := hC.alloc (.cells #[.int .i64 25, .int .i64 10, .int .i64 180, .int .i64 120, .int .i64 120, .int .i64 1, .int .i64 4, .int .i64 256, .slice A1 n c1] 24)
      replace hP := hP.alloc (.cells #[.int .i64 25, .int .i64 10, .int .i64 180, .int .i64 120, .int .i64 120, .int .i64 1, .int .i64 4, .int .i64 256, .slice A1 n c1] 24)
      replace hB := balloc hB (.cells #[.int .i64 25, .int .i64 10, .int .i64 180, .int .i64 120, .int .i64 120, .int .i64 1, .int .i64 4, .int .i64 256, .slice A1 n c1] 24)
      clear k0 k1 k2 k3 k4 k5 k6 k7 k8
      clear z0 z1
      have k0 := (hC).cell 0
      have k1 := (hC).cell 1
      have k2 := (hC).cell 2
      have k3 := (hC).cell 3
      have k4 := (hC).cell 4
      have k5 := (hC).cell 5
      have k6 := (hC).cell 6
      have k7 := (hC).cell 7
      have k8 := (hC).cell 8
      simp only [List.getElem?_toArray, List.getElem?_cons_zero, List.getElem?_cons_succ] at k0 k1 k2 k3 k4 k5 k6 k7 k8
      have z0 := (hP).cell 0
      have z1 := (hP).cell 1
      simp only [List.getElem?_toArray, List.getElem?_cons_zero, List.getElem?_cons_succ] at z0 z1
      have HX4 := Lib.hid hB
      go_wp2_with fail
      have x0 := (hS).cell 0
      have x1 := (hS).cell 1
      have x2 := (hS).cell 2
      have x3 := (hS).cell 3
      have x4 := (hS).cell 4
      have x5 := (hS).cell 5
      have x6 := (hS).cell 6
      have x7 := (hS).cell 7
      have x8 := (hS).cell 8
      simp only [List.getElem?_toArray, List.getElem?_cons_zero, List.getElem?_cons_succ] at x0 x1 x2 x3 x4 x5 x6 x7 x8
      refine (HR1.out _ HX4.out).mono ?_
      rintro e w4 ⟨A2, c2, rfl, g1, g2, g3, b4⟩
      replace hr1 := (hr1.below (b4.mono hs1)).more (Nat.le_trans hs1 b4.size)
      clear hs1
      replace hC := hC.below b4 hC.lt
      replace hP := hP.below b4 hP.lt
      replace hS := hS.below b4 hS.lt
      replace hB := bnext hB b4
      clear b4
      clear k0 k1 k2 k3 k4 k5 k6 k7 k8
      clear z0 z1
      clear x0 x1 x2 x3 x4 x5 x6 x7 x8
      have k0 := (hC).cell 0
      have k1 := (hC).cell 1
      have k2 := (hC).cell 2
      have k3 := (hC).cell 3
      have k4 := (hC).cell 4
      have k5 := (hC).cell 5
      have k6 := (hC).cell 6
      have k7 := (hC).cell 7
      have k8 := (hC).cell 8
      simp only [List.getElem?_toArray, List.getElem?_cons_zero, List.getElem?_cons_succ] at k0 k1 k2 k3 k4 k5 k6 k7 k8
      have z0 := (hP).cell 0
      have z1 := (hP).cell 1
      simp only [List.getElem?_toArray, List.getElem?_cons_zero, List.getElem?_cons_succ] at z0 z1
      have x0 := (hS).cell 0
      have x1 := (hS).cell 1
      have x2 := (hS).cell 2
      have x3 := (hS).cell 3
      have x4 := (hS).cell 4
      have x5 := (hS).cell 5
      have x6 := (hS).cell 6
      have x7 := (hS).cell 7
      have x8 := (hS).cell 8
      simp only [List.getElem?_toArray, List.getElem?_cons_zero, List.getElem?_cons_succ] at x0 x1 x2 x3 x4 x5 x6 x7 x8
      clear HX4
      have hT := Blk.new w4 24 #[.int .i64 25, .int .i64 10, .int .i64 180, .int .i64 120, .int .i64 120, .int .i64 1, .int .i64 4, .int .i64 256, .slice A2 n c2]
      replace hC := hC.alloc (.cells #[.int .i64 25, .int .i64 10, .int .i64 180, .int .i64 120, .int .i64 120, .int .i64 1, .int .i64 4, .int .i64 256, .slice A2 n c2] 24)
      replace hP := hP.alloc (.cells #[.int .i64 25, .int .i64 10, .int .i64 180, .int .i64 120, .int .i64 120, .int .i64 1, .int .i64 4, .int .i64 256, .slice A2 n c2] 24)
      replace hS := hS.alloc (.cells #[.int .i64 25, .int .i64 10, .int .i64 180, .int .i64 120, .int .i64 120, .int .i64 1, .int .i64 4, .int .i64 256, .slice A2 n c2] 24)
      replace hB := balloc hB (.cells #[.int .i64 25, .int .i64 10, .int .i64 180, .int .i64 120, .int .i64 120, .int .i64 1, .int .i64 4, .int .i64 256, .slice A2 n c2] 24)
      clear k0 k1 k2 k3 k4 k5 k6 k7 k8
      clear z0 z1
      clear x0 x1 x2 x3 x4 x5 x6 x7 x8
      have k0 := (hC).cell 0
      have k1 := (hC).cell 1
      have k2 := (hC).cell 2
      have k3 := (hC).cell 3
      have k4 := (hC).cell 4
      have k5 := (hC).cell 5
      have k6 := (hC).cell 6
      have k7 := (hC).cell 7
      have k8 := (hC).cell 8
      simp only [List.getElem?_toArray, List.getElem?_cons_zero, List.getElem?_cons_succ] at k0 k1 k2 k3 k4 k5 k6 k7 k8
      have z0 := (hP).cell 0
      have z1 := (hP).cell 1
      simp only [List.getElem?_toArray, List.getElem?_cons_zero, List.getElem?_cons_succ] at z0 z1
      have x0 := (hS).cell 0
      have x1 := (hS).cell 1
      have x2 := (hS).cell 2
      have x3 := (hS).cell 3
      have x4 := (hS).cell 4
      have x5 := (hS).cell 5
      have x6 := (hS).cell 6
      have x7 := (hS).cell 7
      have x8 := (hS).cell 8
      simp only [List.getElem?_toArray, List.getElem?_cons_zero, List.getElem?_cons_succ] at x0 x1 x2 x3 x4 x5 x6 x7 x8
      replace hr1 := (hr1.alloc (Nat.le_refl _) (.cells #[.int .i64 25, .int .i64 10, .int .i64 180, .int .i64 120, .int .i64 120, .int .i64 1, .int .i64 4, .int .i64 256, .slice A2 n c2] 24)).more (B' := (w4.alloc (.cells #[.int .i64 25, .int .i64 10, .int .i64 180, .int .i64 120, .int .i64 120, .int .i64 1, .int .i64 4, .int .i64 256, .slice A2 n c2] 24)).heap.size) (by simp)
      have hr2 := (g3.alloc (Nat.le_refl _) (.cells #[.int .i64 25, .int .i64 10, .int .i64 180, .int .i64 120, .int .i64 120, .int .i64 1, .int .i64 4, .int .i64 256, .slice A2 n c2] 24)).more (B' := (w4.alloc (.cells #[.int .i64 25, .int .i64 10, .int .i64 180, .int .i64 120, .int .i64 120, .int .i64 1, .int .i64 4, .int .i64 256, .slice A2 n c2] 24)).heap.size) (by simp)
      go_wp2_with fail
      clear k0 k1 k2 k3 k4 k5 k6 k7 k8 z0 z1 x0 x1 x2 x3 x4 x5 x6 x7 x8
      obtain ⟨w5, hw5⟩ : ∃ w5, w5 = w4.alloc (.cells #[.int .i64 25, .int .i64 10, .int .i64 180, .int .i64 120, .int .i64 120, .int .i64 1, .int .i64 4, .int .i64 256, .slice A2 n c2] 24) := ⟨_, rfl⟩
      rw [← hw5] at hC hP hS hT hB hr1 hr2 ⊢
      clear hw5
      have k0 := fun v : Sub w5 => ((hC).below v.2 (hC).lt).cell 0
      have k1 := fun v : Sub w5 => ((hC).below v.2 (hC).lt).cell 1
      have k2 := fun v : Sub w5 => ((hC).below v.2 (hC).lt).cell 2
      have k3 := fun v : Sub w5 => ((hC).below v.2 (hC).lt).cell 3
      have k4 := fun v : Sub w5 => ((hC).below v.2 (hC).lt).cell 4
      have k5 := fun v : Sub w5 => ((hC).below v.2 (hC).lt).cell 5
      have k6 := fun v : Sub w5 => ((hC).below v.2 (hC).lt).cell 6
      have k7 := fun v : Sub w5 => ((hC).below v.2 (hC).lt).cell 7
      have k8 := fun v : Sub w5 => ((hC).below v.2 (hC).lt).cell 8
      simp only [List.getElem?_toArray, List.getElem?_cons_zero, List.getElem?_cons_succ] at k0 k1 k2 k3 k4 k5 k6 k7 k8
      have z0 := fun v : Sub w5 => ((hP).below v.2 (hP).lt).cell 0
      have z1 := fun v : Sub w5 => ((hP).below v.2 (hP).lt).cell 1
      simp only [List.getElem?_toArray, List.getElem?_cons_zero, List.getElem?_cons_succ] at z0 z1
      have x0 := fun v : Sub w5 => ((hS).below v.2 (hS).lt).cell 0
      have x1 := fun v : Sub w5 => ((hS).below v.2 (hS).lt).cell 1
      have x2 := fun v : Sub w5 => ((hS).below v.2 (hS).lt).cell 2
      have x3 := fun v : Sub w5 => ((hS).below v.2 (hS).lt).cell 3
      have x4 := fun v : Sub w5 => ((hS).below v.2 (hS).lt).cell 4
      have x5 := fun v : Sub w5 => ((hS).below v.2 (hS).lt).cell 5
      have x6 := fun v : Sub w5 => ((hS).below v.2 (hS).lt).cell 6
      have x7 := fun v : Sub w5 => ((hS).below v.2 (hS).lt).cell 7
      have x8 := fun v : Sub w5 => ((hS).below v.2 (hS).lt).cell 8
      simp only [List.getElem?_toArray, List.getElem?_cons_zero, List.getElem?_cons_succ] at x0 x1 x2 x3 x4 x5 x6 x7 x8
      have y0 := fun v : Sub w5 => ((hT).below v.2 (hT).lt).cell 0
      have y1 := fun v : Sub w5 => ((hT).below v.2 (hT).lt).cell 1
      have y2 := fun v : Sub w5 => ((hT).below v.2 (hT).lt).cell 2
      have y3 := fun v : Sub w5 => ((hT).below v.2 (hT).lt).cell 3
      have y4 := fun v : Sub w5 => ((hT).below v.2 (hT).lt).cell 4
      have y5 := fun v : Sub w5 => ((hT).below v.2 (hT).lt).cell 5
      have y6 := fun v : Sub w5 => ((hT).below v.2 (hT).lt).cell 6
      have y7 := fun v : Sub w5 => ((hT).below v.2 (hT).lt).cell 7
      have y8 := fun v : Sub w5 => ((hT).below v.2 (hT).lt).cell 8
      simp only [List.getElem?_toArray, List.getElem?_cons_zero, List.getElem?_cons_succ] at y0 y1 y2 y3 y4 y5 y6 y7 y8
      have hne : Nonempty (Sub w5) := ⟨⟨_, Below.refl _ _⟩⟩
      have HSM := Lib.hid (fun v : Sub w5 => rsame8_any 25 10 180 120 120 1 4 256 25 10 180 120 120 1 4 256 A1 A2 n n c1 c2 l l HN.out HN.out v.1 ((hr1.below v.2).more v.2.size) ((hr2.below v.2).more v.2.size) (by omega))
      simp only [beq_self_eq_true, Bool.and_self, decide_true] at HSM
      clear hr1 hr2 e3 g3
      clear hC hP hS hT
      refine region_sub (by kernel_rfl) (by kernel_rfl) ?_
      repeat (first | go_big_quiet_step (((first | (go_at_call 10; exact sub_same (num_any _ _)) | (go_at_call 14; exact sub_below (HRR.out _ (bnext hB (Sub.le _)))) | (go_at_call 15; exact sub_below (HOW.out _ (bnext hB (Sub.le _)))) | (go_at_call 16; exact sub_below (HRO.out _ (bnext hB (Sub.le _)))) | (go_at_call 17; exact sub_below (HSM.out _)) | (go_at_call 9; exact sub_below (HWK.out _ (bnext hB (Sub.le _))))))) | quiet_step (((first | (go_at_call 10; exact sub_same (num_any _ _)) | (go_at_call 14; exact sub_below (HRR.out _ (bnext hB (Sub.le _)))) | (go_at_call 15; exact sub_below (HOW.out _ (bnext hB (Sub.le _)))) | (go_at_call 16; exact sub_below (HRO.out _ (bnext hB (Sub.le _)))) | (go_at_call 17; exact sub_below (HSM.out _)) | (go_at_call 9; exact sub_below (HWK.out _ (bnext hB (Sub.le _))))))))
      refine wpQuiet_nil ?_
      rintro _ ⟨v, rfl⟩
      go_wp2_with fail
      go_ret
      exact ⟨rfl, bnext hB v.2⟩
end Go.Proofs.YtcinggnhfgkahaaDoor
