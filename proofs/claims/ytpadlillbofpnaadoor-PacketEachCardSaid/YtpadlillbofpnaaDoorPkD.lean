/- PacketEncodes: the walk. -/
import Derived.Test.YtpadlillbofpnaaDoorPkB
namespace Go.Proofs.YtpadlillbofpnaaDoor
set_option linter.unusedVariables false
set_option linter.unusedSimpArgs false
open Go.RowKit
set_option maxRecDepth 100000
theorem dec_c2 (cm : Int) (l : List Er) (n : Nat) (hn : l.length = n) (hf : ∀ e ∈ l, fitR e) (hE : encE cm l = 0) (bb : List UInt8) (k : Nat) (hbb : bb = pkB cm l) (hk : bb.length = k) (A : Option Addr) (c : Nat) (W : World) (hW : WidthsAt W) (h : Rd W W.heap.size A (bb.map b8)) (hc : k ≤ c ∧ c ≤ 9223372036854775807) :
    Calls Tryd.prog 9 #[.slice A k c] W fun e w' => ∃ A' c', e = .returned (.tuple #[.agg #[.int .i64 cm, .slice A' n c'], .int .i64 0]) ∧ n ≤ c' ∧ c' ≤ 9223372036854775807 ∧ Rd w' w'.heap.size A' (erC l) ∧ Below W.heap.size W w' := by
  obtain ⟨h1, h2, h3⟩ := dec_enc hE hf
  refine (decode_any bb k hk A c W.heap.size W hW h hc.1 hc.2 (Nat.le_refl _)).mono ?_
  rintro e w' ⟨A', c', rfl, k1, k2, k3, k4, _⟩
  rw [hbb] at k1 k3 ⊢
  rw [h3, hn] at k1
  rw [h3] at k3
  exact ⟨A', c', by rw [h1, h2, h3, hn], k1, k2, k3, k4⟩
set_option maxHeartbeats 8000000 in
theorem pencodes_walk (cm : Int) (l : List Er) (n : Nat) (hn : l.length = n) (A : Option Addr) (c : Nat) (w : World) (hw : WidthsAt w) (hr : Rd w w.heap.size A (erC l)) (hf : ∀ e ∈ l, fitR e) (hnc : n ≤ c ∧ c ≤ 9223372036854775807) :
    Calls Tryd.prog 5 #[.agg #[.int .i64 cm, .slice A n c]] w fun e w' => e = .returned (.bool true) ∧ Below w.heap.size w w' := by
  have hb1 : Below w.heap.size w (w.alloc (.cells #[.int .i64 cm, .slice A n c] 27)) := balloc (Below.refl _ _) _
  have hx := Blk.new w 27 #[.int .i64 cm, .slice A n c]
  obtain ⟨w1, hw1⟩ : ∃ w1, w1 = w.alloc (.cells #[.int .i64 cm, .slice A n c] 27) := ⟨_, rfl⟩
  rw [← hw1] at hb1 hx
  have hR := fun W (hW : Below w1.heap.size w1 W) => hr.next (bnext hb1 hW)
  have HWK := Lib.hid (fun W (h : Below w1.heap.size w1 W) => works5_any W (hw.below (bnext hb1 h)))
  have HEN0 := Lib.hid (fun (h4 : n ≤ 40) => encode_any cm l n c hn A w1 (hR w1 (Below.refl _ _)) hf (hw.below hb1) (by omega))
  have HRE := Lib.hid (fun W (h : Below w1.heap.size w1 W) => refencode5_any cm l n c hn A W (hR W h) hf hnc)
  have HA1 := Lib.hid (fun W (h : Below w1.heap.size w1 W) => asks_any cm l n c hn A W (hR W h))
  have HA2 := Lib.hid (fun W (h : Below w1.heap.size w1 W) => refasks_any cm l n c hn A W (hR W h))
  have HRR := Lib.hid hR
  have HW1 := Lib.hid hw1
  have HB1 := Lib.hid hb1
  have HX := Lib.hid hx
  have HW := Lib.hid hw
  have HN := Lib.hid hn
  have HF := Lib.hid hf
  have d0 := (hx).cell 0
  have d1 := (hx).cell 1
  simp only [List.getElem?_toArray, List.getElem?_cons_zero, List.getElem?_cons_succ] at d0 d1
  clear hw1 hb1 hx hw hr hR hn hf
  unfold GivesB at HEN0 HRE
  by_cases h4 : n ≤ 40
  case neg =>
    have h4' : (40 : Int) < (n : Int) := by omega
    go_enter Tryd.func5, Tryd.ntmps5
    go_wp2_with fail
    rw [← HW1.out]
    go_wp2_with (go_at_call 8; refine (HWK.out _ (Below.refl _ _)).mono ?_; rintro e w' ⟨rfl, b⟩)
    go_ret
    exact ⟨rfl, bnext HB1.out b⟩
  case pos =>
    have h4' : (n : Int) ≤ 40 := by omega
    have HEN := Lib.hid (HEN0.out h4)
    clear HEN0
    have HBB := Lib.hid (show encE cm l = 0 → encB cm l = pkB cm l from fun h => by unfold encB; rw [if_pos h])
    have HKK := Lib.hid (show encE cm l = 0 → (encB cm l).length = n * 20 + 4 from fun h => by rw [HBB.out h, pkB_len, HN.out])
    obtain ⟨E, hE⟩ : ∃ E, E = encE cm l := ⟨_, rfl⟩
    obtain ⟨bb, hbb⟩ : ∃ bb, bb = encB cm l := ⟨_, rfl⟩
    obtain ⟨k, hk⟩ : ∃ k, k = bb.length := ⟨_, rfl⟩
    rw [← hE] at HEN HRE HBB HKK
    rw [← hbb, ← hk] at HEN HRE HKK
    rw [← hbb] at HBB
    have HKL := Lib.hid hk
    have HEE := Lib.hid hE
    clear hE hbb hk
    go_enter Tryd.func5, Tryd.ntmps5
    go_wp2_with fail
    rw [← HW1.out]
    go_wp2_with fail
    refine HEN.out.mono ?_
    rintro e w2 ⟨A2, c2, rfl, f1, f2, f3, f4⟩
    have x2 := HX.out.below f4 HX.out.lt
    have HB2 := Lib.hid f4
    clear d0 d1 HEN f4
    have d0 := (x2).cell 0
    have d1 := (x2).cell 1
    simp only [List.getElem?_toArray, List.getElem?_cons_zero, List.getElem?_cons_succ] at d0 d1
    go_wp2_with fail
    refine (HRE.out _ HB2.out).mono ?_
    rintro e w3 ⟨A3, c3, rfl, g1, g2, g3, g4⟩
    have HB3 := Lib.hid (bnext HB2.out g4)
    have hx3 := x2.below g4 x2.lt
    have HX3 := Lib.hid hx3
    have q2 := (f3.below g4).more g4.size
    have HQ2 := Lib.hid q2
    clear d0 d1 x2 f3 HRE
    have hne : Nonempty (Sub w3) := ⟨⟨_, Below.refl _ _⟩⟩
    have cv1 : ∀ v : Sub w3, (convert 22 9 (.slice A2 k c2)).run Tryd.prog v.1 = .ok (.string (str bb)) v.1 := fun v => by
      have h := conv_rd (P := Tryd.prog) 22 9 5 Tryd.underlying22 Tryd.underlying5 Tryd.underlying9 c2 (q2.below v.2)
      rw [← HKL.out] at h; exact h
    have cv2 : ∀ v : Sub w3, (convert 22 9 (.slice A3 k c3)).run Tryd.prog v.1 = .ok (.string (str bb)) v.1 := fun v => by
      have h := conv_rd (P := Tryd.prog) 22 9 5 Tryd.underlying22 Tryd.underlying5 Tryd.underlying9 c3 (g3.below v.2)
      rw [← HKL.out] at h; exact h
    have HS1 := Lib.hid (fun v : Sub w3 => HA1.out v.1 (bnext HB3.out v.2))
    have HS2 := Lib.hid (fun v : Sub w3 => HA2.out v.1 (bnext HB3.out v.2))
    have d0 := fun v : Sub w3 => ((hx3).below v.2 (hx3).lt).cell 0
    have d1 := fun v : Sub w3 => ((hx3).below v.2 (hx3).lt).cell 1
    simp only [List.getElem?_toArray, List.getElem?_cons_zero, List.getElem?_cons_succ] at d0 d1
    generalize asksB cm l = ab at *
    clear q2 g3 g4 hx3 HA1 HA2
    go_wp2_with fail
    refine region_sub (by kernel_rfl) (by kernel_rfl) ?_
    repeat (first | go_big_quiet_step (((first | (go_at_call 12; exact sub_same (num_any _ _)) | (go_at_call 19; exact sub_below (HS1.out _)) | (go_at_call 20; exact sub_below (HS2.out _))))) | quiet_step (((first | (go_at_call 12; exact sub_same (num_any _ _)) | (go_at_call 19; exact sub_below (HS1.out _)) | (go_at_call 20; exact sub_below (HS2.out _))))))
    refine wpQuiet_nil ?_
    rintro _ ⟨v, rfl⟩
    have HB4 := Lib.hid (bnext HB3.out v.2)
    have q4 := (HQ2.out.below v.2).more v.2.size
    have x4 := HX3.out.below v.2 HX3.out.lt
    obtain ⟨w4, hv4⟩ := v
    simp only at HB4 q4 x4 ⊢
    have HQ4 := Lib.hid q4
    clear hv4 d0 d1 cv1 cv2 HS1 HS2 hne q4
    by_cases hE : E = 0
    case neg =>
      have hE' : (E != 0) = true := by simpa using hE
      go_wp2_with (go_at_call 8; refine (HWK.out _ HB4.out).mono ?_; rintro e w' ⟨rfl, b⟩)
      go_ret
      exact ⟨rfl, bnext HB1.out (bnext HB4.out b)⟩
    case pos =>
      subst hE
      have hk := HKK.out rfl
      have HD := Lib.hid (dec_c2 cm l n HN.out HF.out HEE.out.symm bb k (HBB.out rfl) HKL.out.symm A2 c2 w4 (HW.out.below (bnext HB1.out HB4.out)) HQ4.out ⟨f1, f2⟩)
      have HK := Lib.hid hk
      clear hk HBB HKK HEE HF
      go_wp2_with fail
      refine HD.out.mono ?_
      rintro e w5 ⟨A5, c5, rfl, k1, k2, k3, k4⟩
      have x6 := (x4.below k4 x4.lt).alloc (.cells #[.int .i64 cm, .slice A5 n c5] 27)
      have y6 := Blk.new w5 27 #[.int .i64 cm, .slice A5 n c5]
      have b6 : Below w4.heap.size w4 (w5.alloc (.cells #[.int .i64 cm, .slice A5 n c5] 27)) := balloc k4 _
      have HS := Lib.hid (refpksame_any cm cm l l n n c5 c HN.out HN.out A5 A (w5.alloc (.cells #[.int .i64 cm, .slice A5 n c5] 27)) ((k3.alloc (Nat.le_refl _) _).more (by simp)) (HRR.out _ (bnext HB4.out b6)) (by omega))
      rw [show decide (cm = cm ∧ l = l) = true from decide_eq_true ⟨rfl, rfl⟩] at HS
      have HB6 := Lib.hid (bnext HB4.out b6)
      have HX6 := Lib.hid x6
      clear x4 k3 k4 b6 HD
      have d0 := (x6).cell 0
      have d1 := (x6).cell 1
      simp only [List.getElem?_toArray, List.getElem?_cons_zero, List.getElem?_cons_succ] at d0 d1
      have p0 := (y6).cell 0
      have p1 := (y6).cell 1
      simp only [List.getElem?_toArray, List.getElem?_cons_zero, List.getElem?_cons_succ] at p0 p1
      go_wp2_with fail
      refine HS.out.mono ?_
      rintro e w7 ⟨rfl, b7⟩
      have x7 := HX6.out.below b7 HX6.out.lt
      have HB7 := Lib.hid (bnext HB6.out b7)
      clear d0 d1 p0 p1 x6 y6 b7
      have d0 := (x7).cell 0
      have d1 := (x7).cell 1
      simp only [List.getElem?_toArray, List.getElem?_cons_zero, List.getElem?_cons_succ] at d0 d1
      clear x7
      have hkk : ((k : Int) == 4 + 20 * (n : Int)) = true := by rw [beq_iff_eq]; have := HK.out; omega
      go_wp2_with (first
        | (go_at_call 12; refine (num_any _ _).mono ?_; rintro e w' ⟨rfl, rfl⟩)
        | (go_at_call 8; refine (HWK.out _ HB7.out).mono ?_; rintro e w8 ⟨rfl, b8'⟩))
      go_ret
      exact ⟨rfl, bnext HB1.out (bnext HB7.out b8')⟩
end Go.Proofs.YtpadlillbofpnaaDoor
