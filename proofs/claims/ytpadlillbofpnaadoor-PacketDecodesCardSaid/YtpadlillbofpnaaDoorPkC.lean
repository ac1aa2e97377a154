/- PacketDecodes: the walk. -/
import Derived.Test.YtpadlillbofpnaaDoorPkB
namespace Go.Proofs.YtpadlillbofpnaaDoor
set_option linter.unusedVariables false
set_option linter.unusedSimpArgs false
open Go.RowKit
set_option maxRecDepth 100000
set_option maxHeartbeats 8000000 in
theorem pdecodes_walk (l : List UInt8) (n : Nat) (hn : l.length = n) (A : Option Addr) (c : Nat) (w : World) (hw : WidthsAt w) (hr : Rd w w.heap.size A (l.map b8)) (hnc : n ≤ c ∧ c ≤ 9223372036854775807) :
    Calls Tryd.prog 3 #[.slice A n c] w fun e w' => e = .returned (.bool true) ∧ Below w.heap.size w w' := by
  obtain ⟨i0, hi0, hz0, hz1, hz2⟩ := info_parts u8_info
  have HW := Lib.hid hw
  have HR := Lib.hid hr
  have HN := Lib.hid hn
  have HWK := Lib.hid (fun W (h : Below w.heap.size w W) => works5_any W (hw.below h))
  clear hw hr hn
  by_cases h6 : n ≤ 600
  case neg =>
    have h6' : (600 : Int) < (n : Int) := by omega
    go_enter Tryd.func3, Tryd.ntmps3
    go_wp2_with (go_at_call 8; refine (HWK.out _ (Below.refl _ _)).mono ?_; rintro e w' ⟨rfl, b⟩)
    go_ret
    exact ⟨rfl, b⟩
  case pos =>
    have h6' : ¬ (600 : Int) < (n : Int) := by omega
    go_enter Tryd.func3, Tryd.ntmps3
    go_wp2_with (first
      | (at_builtin; refine wpList_append_rd rfl (.tmp 14) (.tmp 15) _ rfl w.heap.size 5 i0 _ 1 1 Tryd.underlying22 hi0 hz0 hz1 hz2 rfl (by omega) (.slice (some ⟨w.heap.size, 0, none⟩) 0 0) 0 [] rfl (World.ownsRow_lit w #[] 0 (Nat.le_refl _) (by simp [maxLen]) (by simp)) n c (l.map b8) rfl (by rw [List.length_map, HN.out]; omega) (HR.out.alloc (Nat.le_refl _) _) (b8_one l) (by simp only [maxLen]; omega) (by omega) (by simp) ?_; intro v1 w1 o1 g1 a1; have b1 : Below w.heap.size w w1 := (balloc (Below.refl _ w) _).grown g1 (by simp) (by simp [Value.ownBlock]); have H77 := Lib.hid (Rd.newL w1 5 #[.int .u8 77] [.int .u8 77] rfl); have bz1 := b1.size)
      | (at_builtin; refine wpList_append_rd rfl (.tmp 16) (.tmp 17) _ rfl w.heap.size 5 i0 _ 1 1 Tryd.underlying22 hi0 hz0 hz1 hz2 rfl (by omega) v1 _ _ rfl (o1.alloc _) 1 1 [.int .u8 77] rfl rfl H77.out (by simp [Value.oneCell']) (by simp only [maxLen]; omega) (by omega) (by simp; omega) ?_; intro v2 w2 o2 g2 a2; have b2 : Below w.heap.size w w2 := (balloc b1 _).grown g2 (balloc b1 _).size (own_base o1); obtain ⟨gg, cap, rfl, hgg⟩ := own_form5 o2 (by omega); obtain ⟨A9, c9, hAe, hc9, hm9, hr9, _⟩ := own_row o2; injection hAe with e1 e2 e3; subst e1 e3; unfold maxLen at hm9))
    have r2 : Rd w2 w2.heap.size (some ⟨gg, 0, none⟩) (l.map b8) := by rw [List.nil_append] at hr9; exact hr9.pre
    have HR2 := Lib.hid r2
    have hcap : n ≤ cap ∧ cap ≤ 9223372036854775807 := by omega
    clear hr9 o2 a2 g2 a1 g1 o1 b1 H77 e2 hc9 hm9 r2
    have HB2 := Lib.hid b2
    clear b2
    refine (decode_any l n HN.out _ cap w2.heap.size w2 (HW.out.below HB2.out) HR2.out hcap.1 hcap.2 (Nat.le_refl _)).mono ?_
    rintro e w3 ⟨A3, c3, rfl, d1, d2, d3, d4, _⟩
    have HED := Lib.hid (show decE l = 0 → encE (dcmd l) (desL l) = 0 ∧ pkB (dcmd l) (desL l) = l from fun h => enc_dec h)
    have HFD := Lib.hid (show (∀ e ∈ desL l, fitR e) ∧ (desL l).length ≤ 30 from by
      unfold desL
      split
      · refine ⟨ersOf_fit _, ?_⟩
        rw [ersOf_len, List.length_drop, HN.out]; omega
      · exact ⟨fun e he => by simp at he, by simp⟩)
    have HRD := Lib.hid (fun W (hW : Below w.heap.size w W) => refdecode5_any l n HN.out A c w.heap.size W (HR.out.below hW) hnc.1 hnc.2 hW.size)
    have HCK := Lib.hid (fun W (hW : Below w2.heap.size w2 W) => pcheck_any l n HN.out (some ⟨gg, 0, none⟩) cap w2.heap.size W (HW.out.below (bnext HB2.out hW)) (HR2.out.below hW) hcap.1 hcap.2 hW.size)
    unfold DecR at HRD
    generalize decE l = E at *
    generalize dcmd l = cm at *
    generalize desL l = D at *
    generalize hm : D.length = m at *
    have HM := Lib.hid hm
    have hm30 : m ≤ 30 := by have := HFD.out.2; omega
    clear hm
    have HB3 := Lib.hid d4
    have X4 := Lib.hid (Blk.new w3 27 #[.int .i64 cm, .slice A3 m c3])
    have b4 : Below w2.heap.size w2 (w3.alloc (.cells #[.int .i64 cm, .slice A3 m c3] 27)) := balloc d4 _
    have r4 := Lib.hid (d3.alloc (Nat.le_refl _) (.cells #[.int .i64 cm, .slice A3 m c3] 27))
    clear d3 d4
    go_wp2_with fail
    obtain ⟨w4, hw4⟩ : ∃ w4, w4 = w3.alloc (.cells #[.int .i64 cm, .slice A3 m c3] 27) := ⟨_, rfl⟩
    have hs4 : w3.heap.size + 1 = w4.heap.size := by rw [hw4]; simp
    rw [← hw4] at X4 b4 r4 ⊢
    have HB4 := Lib.hid b4
    clear hw4 b4
    refine (HRD.out w4 (bnext HB2.out HB4.out)).mono ?_
    rintro e w5 ⟨A5, c5, rfl, f1, f2, f3, f4⟩
    have X4' := Lib.hid ((X4.out.below f4 X4.out.lt).alloc (.cells #[.int .i64 cm, .slice A5 m c5] 27))
    have X6 := Lib.hid (Blk.new w5 27 #[.int .i64 cm, .slice A5 m c5])
    have b6 : Below w4.heap.size w4 (w5.alloc (.cells #[.int .i64 cm, .slice A5 m c5] 27)) := balloc f4 _
    have r6 := Lib.hid (f3.alloc (Nat.le_refl _) (.cells #[.int .i64 cm, .slice A5 m c5] 27))
    have hs6 : (w5.alloc (.cells #[.int .i64 cm, .slice A5 m c5] 27)).heap.size = w5.heap.size + 1 := by simp
    clear f3 f4
    have hA5 := Lib.hid (And.intro b6 (And.intro r6.out hs6))
    clear b6 r6 hs6
    have d0 := (X4'.out).cell 0
    have d1 := (X4'.out).cell 1
    simp only [List.getElem?_toArray, List.getElem?_cons_zero, List.getElem?_cons_succ] at d0 d1
    have p0 := (X6.out).cell 0
    have p1 := (X6.out).cell 1
    simp only [List.getElem?_toArray, List.getElem?_cons_zero, List.getElem?_cons_succ] at p0 p1
    go_wp2_with fail
    obtain ⟨w6, hw6⟩ : ∃ w6, w6 = w5.alloc (.cells #[.int .i64 cm, .slice A5 m c5] 27) := ⟨_, rfl⟩
    rw [← hw6] at hA5 X4' X6 d0 d1 p0 p1 ⊢
    obtain ⟨b6, r6, hs6⟩ := hA5.out
    have HB6 := Lib.hid (bnext HB4.out b6)
    have hS := refpksame_any cm cm D D m m c3 c5 HM.out HM.out A3 A5 w6 ((r4.out.below (b6.mono (by omega))).more (Nat.le_trans (by omega) b6.size)) (r6.more (by omega)) (by omega)
    rw [show decide (cm = cm ∧ D = D) = true from decide_eq_true ⟨rfl, rfl⟩] at hS
    have HS := Lib.hid hS
    clear hw6 hS hA5
    refine HS.out.mono ?_
    rintro e w7 ⟨rfl, b7⟩
    have X7 := Lib.hid (X4'.out.below b7 X4'.out.lt)
    have HB7 := Lib.hid (bnext HB6.out b7)
    have H47 := Lib.hid (bnext b6 b7)
    clear b6 r6 hs6 b7 d0 d1 p0 p1 X4' X6 HS
    by_cases hE : E = 0
    case neg =>
      have hE' : (E != 0) = true := by simpa using hE
      go_wp2_with (first
        | (go_at_call 12; refine (num_any _ _).mono ?_; rintro e w' ⟨rfl, rfl⟩)
        | (go_at_call 13; refine (HCK.out _ HB7.out).mono ?_; rintro e w8 ⟨rfl, b8'⟩; have cv1 : (convert 22 9 (.slice (some ⟨gg, 0, none⟩) n cap)).run Tryd.prog w8 = .ok (.string (str l)) w8 := by { have h := conv_rd (P := Tryd.prog) 22 9 5 Tryd.underlying22 Tryd.underlying5 Tryd.underlying9 cap (HR2.out.below (bnext HB7.out b8')); rw [HN.out] at h; exact h }; have cv2 : (convert 22 9 (.slice A n c)).run Tryd.prog w8 = .ok (.string (str l)) w8 := by { have h := conv_rd (P := Tryd.prog) 22 9 5 Tryd.underlying22 Tryd.underlying5 Tryd.underlying9 c (HR.out.below (bnext HB2.out (bnext HB7.out b8'))); rw [HN.out] at h; exact h }; have x8 := X7.out.below b8' X7.out.lt; have x0 := x8.cell 0; have x1 := x8.cell 1; simp only [List.getElem?_toArray, List.getElem?_cons_zero, List.getElem?_cons_succ] at x0 x1; have HB8 := Lib.hid (bnext HB7.out b8'); have H48 := Lib.hid (bnext H47.out b8'); clear x8 b8')
        | (go_at_call 8; refine (HWK.out _ (bnext HB2.out HB8.out)).mono ?_; rintro e w9 ⟨rfl, b9⟩))
      go_ret
      exact ⟨rfl, bnext (bnext HB2.out HB8.out) b9⟩
    case pos =>
      subst hE
      obtain ⟨hE1, hE2⟩ := HED.out rfl
      have HEN := Lib.hid (fun W (hW : Below w4.heap.size w4 W) => encode_any cm D m c3 HM.out A3 W ((r4.out.below (hW.mono (by omega))).more (Nat.le_trans (by omega) hW.size)) HFD.out.1 (HW.out.below (bnext HB2.out (bnext HB4.out hW))) (by omega))
      rw [show encB cm D = l by unfold encB; rw [if_pos hE1]; exact hE2, hE1] at HEN
      clear HED hE1 hE2
      go_wp2_with (first
        | (go_at_call 12; refine (num_any _ _).mono ?_; rintro e w' ⟨rfl, rfl⟩)
        | (go_at_call 13; refine (HCK.out _ HB7.out).mono ?_; rintro e w8 ⟨rfl, b8'⟩; have cv1 : (convert 22 9 (.slice (some ⟨gg, 0, none⟩) n cap)).run Tryd.prog w8 = .ok (.string (str l)) w8 := by { have h := conv_rd (P := Tryd.prog) 22 9 5 Tryd.underlying22 Tryd.underlying5 Tryd.underlying9 cap (HR2.out.below (bnext HB7.out b8')); rw [HN.out] at h; exact h }; have cv2 : (convert 22 9 (.slice A n c)).run Tryd.prog w8 = .ok (.string (str l)) w8 := by { have h := conv_rd (P := Tryd.prog) 22 9 5 Tryd.underlying22 Tryd.underlying5 Tryd.underlying9 c (HR.out.below (bnext HB2.out (bnext HB7.out b8'))); rw [HN.out] at h; exact h }; have x8 := X7.out.below b8' X7.out.lt; have x0 := x8.cell 0; have x1 := x8.cell 1; simp only [List.getElem?_toArray, List.getElem?_cons_zero, List.getElem?_cons_succ] at x0 x1; have HB8 := Lib.hid (bnext HB7.out b8'); have H48 := Lib.hid (bnext H47.out b8'); clear x8 b8')
        | (go_at_call 14; refine (HEN.out _ H48.out).mono ?_; rintro e w9 ⟨A9, c9, rfl, k1, k2, k3, k4⟩; have HB9 := Lib.hid (bnext HB8.out k4); have HL := HN.out; have cv3 : (convert 22 9 (.slice A9 n c9)).run Tryd.prog w9 = .ok (.string (str l)) w9 := by { have h := conv_rd (P := Tryd.prog) 22 9 5 Tryd.underlying22 Tryd.underlying5 Tryd.underlying9 c9 k3; rw [HN.out] at h; exact h }; have cv4 : (convert 22 9 (.slice A n c)).run Tryd.prog w9 = .ok (.string (str l)) w9 := by { have h := conv_rd (P := Tryd.prog) 22 9 5 Tryd.underlying22 Tryd.underlying5 Tryd.underlying9 c (HR.out.below (bnext HB2.out HB9.out)); rw [HN.out] at h; exact h }; rw [HN.out]; clear k3 k4 HL)
        | (go_at_call 8; refine (HWK.out _ (bnext HB2.out HB9.out)).mono ?_; rintro e w10 ⟨rfl, b10⟩))
      go_ret
      exact ⟨rfl, bnext (bnext HB2.out HB9.out) b10⟩
end Go.Proofs.YtpadlillbofpnaaDoor
