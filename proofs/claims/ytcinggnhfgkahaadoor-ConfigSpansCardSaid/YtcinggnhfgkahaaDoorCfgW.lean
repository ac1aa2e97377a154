/- The chapter's rows of config (works): true. -/
import Derived.Test.YtcinggnhfgkahaaDoorCfgA
namespace Go.Proofs.YtcinggnhfgkahaaDoor
set_option linter.unusedVariables false
set_option linter.unusedSimpArgs false
open Go.RowKit
set_option maxRecDepth 100000
theorem okC_std : okC 25 10 180 120 120 1 4 256 [(167772160, 8)] = true := by decide +kernel
theorem okC_nil : okC 0 0 0 0 0 0 0 0 [] = false := by decide +kernel
theorem num8_any (n : Int) (w : World) :
    Calls Tryd.prog 10 #[.int .i64 n] w fun e w' => e = .returned (.int .i64 n) ∧ w = w' := num_any n w

set_option maxHeartbeats 4000000 in
theorem works8_any (w : World) (hw : CapsAt w) :
    Calls Tryd.prog 9 #[] w fun e w' => e = .returned (.bool true) ∧ Below w.heap.size w w' := by
  have hl : ∀ x ∈ [((167772160 : Nat), (8 : Int))], x.1 < 4294967296 := by simp
  have HS := Lib.hid (standard_ok [(167772160, 8)] 1 rfl (some ⟨w.heap.size, 0, none⟩) 1 (w.heap.size + 1) (w.alloc (.cells #[.int .u32 167772160, .int .i64 8] 28)) (by have := Rd.new w 28 [.int .u32 167772160, .int .i64 8]; exact this) (by simp) (by omega) hl (hw.below (balloc (Below.refl _ _) _)) okC_std)
  have HK0 := Lib.hid (fun W (hb : Below w.heap.size w W) => ccheck_any 0 0 0 0 0 0 0 0 none 0 0 0 [] rfl W Rd.nil (by omega) (by omega) (by omega) (by simp) (hw.below hb))
  rw [okC_nil] at HK0
  have HCA := Lib.hid (fun W (hb : Below w.heap.size w W) => hw.below hb)
  clear hw
  go_enter Tryd.func9, Tryd.ntmps9
  go_wp2_with fail
  refine HS.out.mono ?_
  rintro e w1 ⟨A1, c1, rfl, h1, h2, h3, b1⟩
  have hb1 := balloc (bnext (balloc (Below.refl _ w) (.cells #[.int .u32 167772160, .int .i64 8] 28)) b1) (.cells #[.int .i64 25, .int .i64 10, .int .i64 180, .int .i64 120, .int .i64 120, .int .i64 1, .int .i64 4, .int .i64 256, .slice A1 1 c1] 24)
  have hC := Blk.new w1 24 #[.int .i64 25, .int .i64 10, .int .i64 180, .int .i64 120, .int .i64 120, .int .i64 1, .int .i64 4, .int .i64 256, .slice A1 1 c1]
  have hR0 : Rd (w1.alloc (.cells #[.int .i64 25, .int .i64 10, .int .i64 180, .int .i64 120, .int .i64 120, .int .i64 1, .int .i64 4, .int .i64 256, .slice A1 1 c1] 24)) w1.heap.size A1 (plC [(167772160, 8)]) := h3.alloc (Nat.le_refl _) _
  have hsz : w1.heap.size ≤ (w1.alloc (.cells #[.int .i64 25, .int .i64 10, .int .i64 180, .int .i64 120, .int .i64 120, .int .i64 1, .int .i64 4, .int .i64 256, .slice A1 1 c1] 24)).heap.size := by simp
  have hgs : w.heap.size ≤ w1.heap.size := by have := b1.size; simp at this; omega
  have h2' : c1 ≤ 9223372036854775807 := by unfold maxLen at h2; omega
  obtain ⟨w0, hw0⟩ : ∃ w0, w0 = w1.alloc (.cells #[.int .i64 25, .int .i64 10, .int .i64 180, .int .i64 120, .int .i64 120, .int .i64 1, .int .i64 4, .int .i64 256, .slice A1 1 c1] 24) := ⟨_, rfl⟩
  go_wp2_with fail
  rw [← hw0] at hb1 hC hR0 hsz
  simp only [← hw0]
  have HWT := Lib.hid (fun d W (hb : Below w0.heap.size w0 W) => cwait_any 25 10 180 120 120 1 4 256 d A1 1 c1 w1.heap.size [(167772160, 8)] rfl W (hR0.below (hb.mono hsz)) (by have := hb.size; omega) h1 h2' hl (HCA.out _ (bnext hb1 hb)))
  have HQT := Lib.hid (fun d W (hb : Below w0.heap.size w0 W) => cquiet_any 25 10 180 120 120 1 4 256 d A1 1 c1 w1.heap.size [(167772160, 8)] rfl W (hR0.below (hb.mono hsz)) (by have := hb.size; omega) h1 h2' hl (HCA.out _ (bnext hb1 hb)))
  have HBD := Lib.hid (fun d W (hb : Below w0.heap.size w0 W) => cbound_any 25 10 180 120 120 1 4 256 d A1 1 c1 w1.heap.size [(167772160, 8)] rfl W (hR0.below (hb.mono hsz)) (by have := hb.size; omega) h1 h2' hl (HCA.out _ (bnext hb1 hb)))
  have HOW := Lib.hid (fun W (hb : Below w0.heap.size w0 W) => owns_any 25 10 180 120 120 1 4 256 [(167772160, 8)] 1 rfl A1 c1 w1.heap.size 167772160 8 W (hR0.below (hb.mono hsz)) (by have := hb.size; omega) (by omega))
  rw [okC_std] at HWT HQT HBD
  have HB1 := Lib.hid hb1
  have hB : Below w0.heap.size w0 w0 := Below.refl _ _
  clear hw0 h3 hR0 b1 hb1 hl h1 h2 h2' hsz
  have k0 := (hC).cell 0
  have k1 := (hC).cell 1
  have k2 := (hC).cell 2
  have k3 := (hC).cell 3
  have k4 := (hC).cell 4
  have k5 := (hC).cell 5
  have k6 := (hC).cell 6
  have k7 := (hC).cell 7
  have k8 := (hC).cell 8
  simp only [List.getElem?_toArray, List.getElem?_cons_zero, List.getElem?_cons_succ] at k0 k1 k2 k3 k4 k5 k6 k7 k8
  have K2 := HWT.out 3 _ hB
  rw [show waitC true 25 3 10 = 28 by decide +kernel, show errC true = 0 from rfl] at K2
  have KH2 := Lib.hid K2
  clear K2
  refine KH2.out.mono ?_
  rintro e w2 ⟨rfl, b2⟩
  replace hC := hC.below b2 hC.lt
  replace hB := bnext hB b2
  clear b2
  clear k0 k1 k2 k3 k4 k5 k6 k7 k8
  have k0 := (hC).cell 0
  have k1 := (hC).cell 1
  have k2 := (hC).cell 2
  have k3 := (hC).cell 3
  have k4 := (hC).cell 4
  have k5 := (hC).cell 5
  have k6 := (hC).cell 6
  have k7 := (hC).cell 7
  have k8 := (hC).cell 8
  simp only [List.getElem?_toArray, List.getElem?_cons_zero, List.getElem?_cons_succ] at k0 k1 k2 k3 k4 k5 k6 k7 k8
  have K3 := HWT.out 99 _ hB
  rw [show waitC true 25 99 10 = 35 by decide +kernel, show errC true = 0 from rfl] at K3
  have KH3 := Lib.hid K3
  clear K3
  go_wp2_with fail
  refine KH3.out.mono ?_
  rintro e w3 ⟨rfl, b3⟩
  replace hC := hC.below b3 hC.lt
  replace hB := bnext hB b3
  clear b3
  clear k0 k1 k2 k3 k4 k5 k6 k7 k8
  have k0 := (hC).cell 0
  have k1 := (hC).cell 1
  have k2 := (hC).cell 2
  have k3 := (hC).cell 3
  have k4 := (hC).cell 4
  have k5 := (hC).cell 5
  have k6 := (hC).cell 6
  have k7 := (hC).cell 7
  have k8 := (hC).cell 8
  simp only [List.getElem?_toArray, List.getElem?_cons_zero, List.getElem?_cons_succ] at k0 k1 k2 k3 k4 k5 k6 k7 k8
  have K4 := HWT.out (-1) _ hB
  rw [show waitC true 25 (-1) 10 = 25 by decide +kernel, show errC true = 0 from rfl] at K4
  have KH4 := Lib.hid K4
  clear K4
  go_wp2_with fail
  refine KH4.out.mono ?_
  rintro e w4 ⟨rfl, b4⟩
  replace hC := hC.below b4 hC.lt
  replace hB := bnext hB b4
  clear b4
  clear k0 k1 k2 k3 k4 k5 k6 k7 k8
  have k0 := (hC).cell 0
  have k1 := (hC).cell 1
  have k2 := (hC).cell 2
  have k3 := (hC).cell 3
  have k4 := (hC).cell 4
  have k5 := (hC).cell 5
  have k6 := (hC).cell 6
  have k7 := (hC).cell 7
  have k8 := (hC).cell 8
  simp only [List.getElem?_toArray, List.getElem?_cons_zero, List.getElem?_cons_succ] at k0 k1 k2 k3 k4 k5 k6 k7 k8
  have K5 := HQT.out 9 _ hB
  rw [show waitC true 1 9 4 = 5 by decide +kernel, show errC true = 0 from rfl] at K5
  have KH5 := Lib.hid K5
  clear K5
  go_wp2_with fail
  refine KH5.out.mono ?_
  rintro e w5 ⟨rfl, b5⟩
  replace hC := hC.below b5 hC.lt
  replace hB := bnext hB b5
  clear b5
  clear k0 k1 k2 k3 k4 k5 k6 k7 k8
  have k0 := (hC).cell 0
  have k1 := (hC).cell 1
  have k2 := (hC).cell 2
  have k3 := (hC).cell 3
  have k4 := (hC).cell 4
  have k5 := (hC).cell 5
  have k6 := (hC).cell 6
  have k7 := (hC).cell 7
  have k8 := (hC).cell 8
  simp only [List.getElem?_toArray, List.getElem?_cons_zero, List.getElem?_cons_succ] at k0 k1 k2 k3 k4 k5 k6 k7 k8
  have K6 := HBD.out 5 _ hB
  rw [show bndC true 25 10 180 120 120 5 = (14720, 0) by decide +kernel] at K6
  have KH6 := Lib.hid K6
  clear K6
  go_wp2_with fail
  refine KH6.out.mono ?_
  rintro e w6 ⟨rfl, b6⟩
  replace hC := hC.below b6 hC.lt
  replace hB := bnext hB b6
  clear b6
  clear k0 k1 k2 k3 k4 k5 k6 k7 k8
  have k0 := (hC).cell 0
  have k1 := (hC).cell 1
  have k2 := (hC).cell 2
  have k3 := (hC).cell 3
  have k4 := (hC).cell 4
  have k5 := (hC).cell 5
  have k6 := (hC).cell 6
  have k7 := (hC).cell 7
  have k8 := (hC).cell 8
  simp only [List.getElem?_toArray, List.getElem?_cons_zero, List.getElem?_cons_succ] at k0 k1 k2 k3 k4 k5 k6 k7 k8
  have K7 := HBD.out 145 _ hB
  rw [show bndC true 25 10 180 120 120 145 = (0, 180) by decide +kernel] at K7
  have KH7 := Lib.hid K7
  clear K7
  go_wp2_with fail
  refine KH7.out.mono ?_
  rintro e w7 ⟨rfl, b7⟩
  replace hC := hC.below b7 hC.lt
  replace hB := bnext hB b7
  clear b7
  clear k0 k1 k2 k3 k4 k5 k6 k7 k8
  have k0 := (hC).cell 0
  have k1 := (hC).cell 1
  have k2 := (hC).cell 2
  have k3 := (hC).cell 3
  have k4 := (hC).cell 4
  have k5 := (hC).cell 5
  have k6 := (hC).cell 6
  have k7 := (hC).cell 7
  have k8 := (hC).cell 8
  simp only [List.getElem?_toArray, List.getElem?_cons_zero, List.getElem?_cons_succ] at k0 k1 k2 k3 k4 k5 k6 k7 k8
  have K8 := HBD.out 144 _ hB
  rw [show bndC true 25 10 180 120 120 144 = (19168, 0) by decide +kernel] at K8
  have KH8 := Lib.hid K8
  clear K8
  go_wp2_with fail
  refine KH8.out.mono ?_
  rintro e w8 ⟨rfl, b8⟩
  replace hC := hC.below b8 hC.lt
  replace hB := bnext hB b8
  clear b8
  clear k0 k1 k2 k3 k4 k5 k6 k7 k8
  have k0 := (hC).cell 0
  have k1 := (hC).cell 1
  have k2 := (hC).cell 2
  have k3 := (hC).cell 3
  have k4 := (hC).cell 4
  have k5 := (hC).cell 5
  have k6 := (hC).cell 6
  have k7 := (hC).cell 7
  have k8 := (hC).cell 8
  simp only [List.getElem?_toArray, List.getElem?_cons_zero, List.getElem?_cons_succ] at k0 k1 k2 k3 k4 k5 k6 k7 k8
  have K9 := HBD.out (-1) _ hB
  rw [show bndC true 25 10 180 120 120 (-1) = (0, 2) by decide +kernel] at K9
  have KH9 := Lib.hid K9
  clear K9
  go_wp2_with fail
  refine KH9.out.mono ?_
  rintro e w9 ⟨rfl, b9⟩
  replace hC := hC.below b9 hC.lt
  replace hB := bnext hB b9
  clear b9
  clear k0 k1 k2 k3 k4 k5 k6 k7 k8
  have k0 := (hC).cell 0
  have k1 := (hC).cell 1
  have k2 := (hC).cell 2
  have k3 := (hC).cell 3
  have k4 := (hC).cell 4
  have k5 := (hC).cell 5
  have k6 := (hC).cell 6
  have k7 := (hC).cell 7
  have k8 := (hC).cell 8
  simp only [List.getElem?_toArray, List.getElem?_cons_zero, List.getElem?_cons_succ] at k0 k1 k2 k3 k4 k5 k6 k7 k8
  have HWB := Lib.hid (bnext HB1.out hB)
  go_wp2_with (first | (go_at_call 10; refine (num_any _ _).mono ?_; rintro e w' ⟨rfl, rfl⟩) | (go_at_call 11; refine (HK0.out _ HWB.out).mono ?_; rintro e wx ⟨rfl, bx⟩; replace hC := hC.below bx hC.lt; have hBx := bnext hB bx; have m0 := hC.cell 0; have m1 := hC.cell 1; have m2 := hC.cell 2; have m3 := hC.cell 3; have m4 := hC.cell 4; have m5 := hC.cell 5; have m6 := hC.cell 6; have m7 := hC.cell 7; have m8 := hC.cell 8; simp only [List.getElem?_toArray, List.getElem?_cons_zero, List.getElem?_cons_succ] at m0 m1 m2 m3 m4 m5 m6 m7 m8; clear bx k0 k1 k2 k3 k4 k5 k6 k7 k8) | (go_at_call 15; refine (HOW.out _ hBx).mono ?_; rintro e wy ⟨rfl, by_⟩))
  go_ret
  exact ⟨rfl, bnext (bnext HB1.out hBx) by_⟩
end Go.Proofs.YtcinggnhfgkahaaDoor
