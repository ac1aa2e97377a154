/- PacketHolds: the walk. -/
import Derived.Test.YtpadlillbofpnaaDoorPkD
import Derived.Laws.BitsAllLaws
namespace Go.Proofs.YtpadlillbofpnaaDoor
set_option linter.unusedVariables false
set_option linter.unusedSimpArgs false
open Go.RowKit
set_option maxRecDepth 100000
theorem own_set {w : World} {base : Nat} {e : TypeId} {g n cap : Nat} {xs : List Value} (h : w.ownsRow base e 1 (.slice (some ⟨g, 0, none⟩) n cap) n xs) {i : Nat} (hi : i < n) :
    w.frozen? ⟨g, i, none⟩ = false ∧ w.cell? ⟨g, i, none⟩ = xs[i]? ∧ ∀ u, Rd (w.setCell ⟨g, i, none⟩ u) (g + 1) (some ⟨g, 0, none⟩) (xs.set i u) := by
  obtain ⟨hl, ⟨h1, _⟩ | ⟨g', cap', cur, h1, _, hb, hnc, _, hcs, ht⟩⟩ := h
  · cases h1
  · injection h1 with h1 h2 h3
    injection h1 with h1
    injection h1 with h1
    subst h1
    have hB : Blk w g e cur := hb
    rw [Nat.mul_one] at ht hl
    have hx : ∀ j, j < n → xs[j]? = cur[j]? := fun j hj => by
      rw [← ht, List.getElem?_take_of_lt hj, Array.getElem?_toList]
    refine ⟨hB.frozen i, ?_, fun u _ => ⟨g, 0, rfl, by omega, fun j v hv => ?_⟩⟩
    · rw [hB.cell i, hx i hi]
    · rw [Nat.zero_add]
      have hc := (hB.set i u).cell j
      rw [hc, Array.getElem?_setIfInBounds]
      rw [List.getElem?_set] at hv
      split
      · rename_i he
        subst he
        rw [if_pos rfl] at hv
        rw [if_pos (by omega)] at hv
        rw [if_pos (by omega)]
        exact hv
      · rename_i he
        rw [if_neg he] at hv
        have hj : j < n := by
          rcases Nat.lt_or_ge j n with h | h
          · exact h
          · rw [List.getElem?_eq_none (by omega)] at hv; cases hv
        rw [← hx j hj]
        exact hv
theorem encE_in (cm : Int) (l : List Er) : 0 ≤ encE cm l ∧ encE cm l ≤ 3 := by
  unfold encE
  split
  · omega
  split
  · omega
  split <;> omega
set_option maxHeartbeats 16000000 in
theorem pholds_walk (cm cm' : Int) (l l' : List Er) (n n' : Nat) (hn : l.length = n) (hn' : l'.length = n') (A A' : Option Addr) (c c' : Nat) (at_ : Int) (X : UInt8) (w : World) (hw : WidthsAt w) (hr : Rd w w.heap.size A (erC l)) (hr' : Rd w w.heap.size A' (erC l')) (hf : ∀ e ∈ l, fitR e) (hf' : ∀ e ∈ l', fitR e) (hnc : n ≤ c ∧ c ≤ 9223372036854775807) (hnc' : n' ≤ c' ∧ c' ≤ 9223372036854775807) :
    Calls Tryd.prog 7 #[.agg #[.int .i64 cm, .slice A n c], .agg #[.int .i64 cm', .slice A' n' c'], .int .i64 at_, .int .u8 (X.toNat : Int)] w fun e w' => e = .returned (.bool true) ∧ Below w.heap.size w w' := by
  obtain ⟨i0, hi0, hz0, hz1, hz2⟩ := info_parts u8_info
  have hb1 : Below w.heap.size w ((w.alloc (.cells #[.int .i64 cm, .slice A n c] 27)).alloc (.cells #[.int .i64 cm', .slice A' n' c'] 27)) := balloc (balloc (Below.refl _ _) _) _
  have hx := (Blk.new w 27 #[.int .i64 cm, .slice A n c]).alloc (.cells #[.int .i64 cm', .slice A' n' c'] 27)
  have hy := Blk.new (w.alloc (.cells #[.int .i64 cm, .slice A n c] 27)) 27 #[.int .i64 cm', .slice A' n' c']
  simp only [World.size_alloc] at hy
  obtain ⟨w1, hw1⟩ : ∃ w1, w1 = ((w.alloc (.cells #[.int .i64 cm, .slice A n c] 27)).alloc (.cells #[.int .i64 cm', .slice A' n' c'] 27)) := ⟨_, rfl⟩
  rw [← hw1] at hb1 hx hy
  have hR := fun W (hW : Below w1.heap.size w1 W) => hr.next (bnext hb1 hW)
  have hR' := fun W (hW : Below w1.heap.size w1 W) => hr'.next (bnext hb1 hW)
  have HWK := Lib.hid (fun W (h : Below w1.heap.size w1 W) => works5_any W (hw.below (bnext hb1 h)))
  have HEN0 := Lib.hid (fun (h4 : n ≤ 40) => encode_any cm l n c hn A w1 (hR w1 (Below.refl _ _)) hf (hw.below hb1) (by omega))
  have HEM0 := Lib.hid (fun (h4 : n' ≤ 40) W (h : Below w1.heap.size w1 W) => encode_any cm' l' n' c' hn' A' W (hR' W h) hf' (hw.below (bnext hb1 h)) (by omega))
  have HSM := Lib.hid (fun W (h : Below w1.heap.size w1 W) => pksame_any cm cm' l l' n n' c c' hn hn' A A' W (hR W h) (hR' W h) (by omega))
  have HRR := Lib.hid hR
  have HW1 := Lib.hid hw1
  have HB1 := Lib.hid hb1
  have HX := Lib.hid hx
  have HY := Lib.hid hy
  have HW := Lib.hid hw
  have HN := Lib.hid hn
  have HN' := Lib.hid hn'
  have HF := Lib.hid hf
  have HF' := Lib.hid hf'
  have d0 := (hx).cell 0
  have d1 := (hx).cell 1
  simp only [List.getElem?_toArray, List.getElem?_cons_zero, List.getElem?_cons_succ] at d0 d1
  have p0 := (hy).cell 0
  have p1 := (hy).cell 1
  simp only [List.getElem?_toArray, List.getElem?_cons_zero, List.getElem?_cons_succ] at p0 p1
  clear hw1 hb1 hx hy hw hr hr' hR hR' hn hn' hf hf'
  unfold GivesB at HEN0 HEM0
  by_cases h4 : n ≤ 40
  case neg =>
    have h4' : (40 : Int) < (n : Int) := by omega
    go_enter Tryd.func7, Tryd.ntmps7
    go_wp2_with fail
    rw [← HW1.out]
    go_wp2_with (go_at_call 8; refine (HWK.out _ (Below.refl _ _)).mono ?_; rintro e w' ⟨rfl, b⟩)
    go_ret
    exact ⟨rfl, bnext HB1.out b⟩
  have h4' : (n : Int) ≤ 40 := by omega
  by_cases h5 : n' ≤ 40
  case neg =>
    have h5' : (40 : Int) < (n' : Int) := by omega
    go_enter Tryd.func7, Tryd.ntmps7
    go_wp2_with fail
    rw [← HW1.out]
    go_wp2_with (go_at_call 8; refine (HWK.out _ (Below.refl _ _)).mono ?_; rintro e w' ⟨rfl, b⟩)
    go_ret
    exact ⟨rfl, bnext HB1.out b⟩
  have h5' : (n' : Int) ≤ 40 := by omega
  have HEN := Lib.hid (HEN0.out h4)
  have HEM := Lib.hid (HEM0.out h5)
  clear HEN0 HEM0
  have HBB := Lib.hid (show encE cm l = 0 → encB cm l = pkB cm l from fun h => by unfold encB; rw [if_pos h])
  have HBB' := Lib.hid (show encE cm' l' = 0 → encB cm' l' = pkB cm' l' from fun h => by unfold encB; rw [if_pos h])
  obtain ⟨E, hE⟩ : ∃ E, E = encE cm l := ⟨_, rfl⟩
  obtain ⟨bb, hbb⟩ : ∃ bb, bb = encB cm l := ⟨_, rfl⟩
  obtain ⟨k, hk⟩ : ∃ k, k = bb.length := ⟨_, rfl⟩
  obtain ⟨F, hF⟩ : ∃ F, F = encE cm' l' := ⟨_, rfl⟩
  obtain ⟨bb', hbb'⟩ : ∃ bb', bb' = encB cm' l' := ⟨_, rfl⟩
  obtain ⟨k', hk'⟩ : ∃ k', k' = bb'.length := ⟨_, rfl⟩
  have hEr : 0 ≤ E ∧ E ≤ 3 := by rw [hE]; exact encE_in cm l
  have hFr : 0 ≤ F ∧ F ≤ 3 := by rw [hF]; exact encE_in cm' l'
  rw [← hE] at HEN HBB
  rw [← hF] at HEM HBB'
  rw [← hbb, ← hk] at HEN
  rw [← hbb', ← hk'] at HEM
  rw [← hbb] at HBB
  rw [← hbb'] at HBB'
  have HKL := Lib.hid hk
  have HEE := Lib.hid hE
  have HKL' := Lib.hid hk'
  have HFE := Lib.hid hF
  clear hE hbb hk hF hbb' hk'
  obtain ⟨sb, hsb⟩ : ∃ sb, sb = decide (cm = cm' ∧ l = l') := ⟨_, rfl⟩
  rw [← hsb] at HSM
  have HSB := Lib.hid (show E = 0 → F = 0 → (bb == bb') = sb from fun h h' => by
    rw [HBB.out h, HBB'.out h', hsb, Bool.eq_iff_iff, beq_iff_eq, decide_eq_true_iff]
    exact ⟨fun q => pkB_inj (HEE.out.symm.trans h) (HFE.out.symm.trans h') HF.out HF'.out q, fun q => by rw [q.1, q.2]⟩)
  clear hsb
  go_enter Tryd.func7, Tryd.ntmps7
  go_wp2_with fail
  rw [← HW1.out]
  go_wp2_with fail
  refine HEN.out.mono ?_
  rintro e w2 ⟨A2, c2, rfl, f1, f2, f3, f4⟩
  have x2 := HX.out.below f4 HX.out.lt
  have y2 := HY.out.below f4 HY.out.lt
  have HB2 := Lib.hid f4
  clear d0 d1 p0 p1 HEN f4
  have p0 := (y2).cell 0
  have p1 := (y2).cell 1
  simp only [List.getElem?_toArray, List.getElem?_cons_zero, List.getElem?_cons_succ] at p0 p1
  go_wp2_with fail
  refine (HEM.out _ HB2.out).mono ?_
  rintro e w3 ⟨A3, c3, rfl, g1, g2, g3, g4⟩
  have HB3 := Lib.hid (bnext HB2.out g4)
  have hx3 := x2.below g4 x2.lt
  have hy3 := y2.below g4 y2.lt
  have HX3 := Lib.hid hx3
  have q2 := (f3.below g4).more g4.size
  have HQ2 := Lib.hid q2
  clear p0 p1 x2 y2 f3 HEM
  have hne : Nonempty (Sub w3) := ⟨⟨_, Below.refl _ _⟩⟩
  have cv1 : ∀ v : Sub w3, (convert 22 9 (.slice A2 k c2)).run Tryd.prog v.1 = .ok (.string (str bb)) v.1 := fun v => by
    have h := conv_rd (P := Tryd.prog) 22 9 5 Tryd.underlying22 Tryd.underlying5 Tryd.underlying9 c2 (q2.below v.2)
    rw [← HKL.out] at h; exact h
  have cv2 : ∀ v : Sub w3, (convert 22 9 (.slice A3 k' c3)).run Tryd.prog v.1 = .ok (.string (str bb')) v.1 := fun v => by
    have h := conv_rd (P := Tryd.prog) 22 9 5 Tryd.underlying22 Tryd.underlying5 Tryd.underlying9 c3 (g3.below v.2)
    rw [← HKL'.out] at h; exact h
  have HS1 := Lib.hid (fun v : Sub w3 => HSM.out v.1 (bnext HB3.out v.2))
  have d0 := fun v : Sub w3 => ((hx3).below v.2 (hx3).lt).cell 0
  have d1 := fun v : Sub w3 => ((hx3).below v.2 (hx3).lt).cell 1
  simp only [List.getElem?_toArray, List.getElem?_cons_zero, List.getElem?_cons_succ] at d0 d1
  have p0 := fun v : Sub w3 => ((hy3).below v.2 (hy3).lt).cell 0
  have p1 := fun v : Sub w3 => ((hy3).below v.2 (hy3).lt).cell 1
  simp only [List.getElem?_toArray, List.getElem?_cons_zero, List.getElem?_cons_succ] at p0 p1
  clear q2 g3 g4 hx3 hy3
  go_wp2_with fail
  by_cases hEF : E = 0 ∧ F = 0
  · obtain ⟨rfl, rfl⟩ := hEF
    have hs0 := HSB.out rfl rfl
    have hs1 : (str bb == str bb') = sb := by rw [str_beq]; exact hs0
    have hs2 : ((str bb).toList == (str bb').toList) = sb := by rw [str_toList, str_toList]; exact hs0
    refine region_sub (by kernel_rfl) (by kernel_rfl) ?_
    repeat (first | go_big_quiet_step (((first | (go_at_call 12; exact sub_same (num_any _ _)) | (go_at_call 22; exact sub_below (HS1.out _))))) | quiet_step (((first | (go_at_call 12; exact sub_same (num_any _ _)) | (go_at_call 22; exact sub_below (HS1.out _))))))
    refine wpQuiet_nil ?_
    rintro _ ⟨v, rfl⟩
    clear hs0 hs1 hs2
    have HB4 := Lib.hid (bnext HB3.out v.2)
    have q4 := (HQ2.out.below v.2).more v.2.size
    have x4 := HX3.out.below v.2 HX3.out.lt
    obtain ⟨w4, hv4⟩ := v
    simp only at HB4 q4 x4 ⊢
    have HQ4 := Lib.hid q4
    have HX4 := Lib.hid x4
    clear hv4 d0 d1 p0 p1 cv1 cv2 HS1 hne q4 x4 HSB HSM HQ2 HX3
    by_cases a1 : at_ < 0
    · go_wp2_with (first | (go_at_call 12; refine (num_any _ _).mono ?_; rintro e w' ⟨rfl, rfl⟩) | (go_at_call 8; refine (HWK.out _ HB4.out).mono ?_; rintro e w' ⟨rfl, b⟩))
      go_ret
      exact ⟨rfl, bnext HB1.out (bnext HB4.out b)⟩
    by_cases a2 : 3 < at_
    · go_wp2_with (first | (go_at_call 12; refine (num_any _ _).mono ?_; rintro e w' ⟨rfl, rfl⟩) | (go_at_call 8; refine (HWK.out _ HB4.out).mono ?_; rintro e w' ⟨rfl, b⟩))
      go_ret
      exact ⟨rfl, bnext HB1.out (bnext HB4.out b)⟩
    by_cases a3 : X = 0
    · have hX0 : ((X.toNat : Int) == 0) = true := by rw [a3]; rfl
      clear a3
      go_wp2_with (first | (go_at_call 12; refine (num_any _ _).mono ?_; rintro e w' ⟨rfl, rfl⟩) | (go_at_call 8; refine (HWK.out _ HB4.out).mono ?_; rintro e w' ⟨rfl, b⟩))
      go_ret
      exact ⟨rfl, bnext HB1.out (bnext HB4.out b)⟩
    have hX0 : ((X.toNat : Int) == 0) = false := by rw [beq_eq_false_iff_ne]; intro h; exact a3 (UInt8.toNat_inj.1 (by simpa using h))
    obtain ⟨i, rfl⟩ : ∃ i : Nat, at_ = (i : Int) := ⟨at_.toNat, by omega⟩
    have hi4 : i < 4 := by omega
    have hbb := HBB.out rfl
    have hkl : 4 ≤ k ∧ k ≤ 504 := by
      have h1 := HKL.out
      rw [hbb, pkB_len, HN.out] at h1
      have h2 := (encE_zero HEE.out.symm).2.1
      rw [HN.out] at h2
      omega
    have HBE := Lib.hid hbb
    have HA3 := Lib.hid a3
    obtain ⟨y, hy⟩ : ∃ y, bb[i]? = some y := ⟨_, List.getElem?_eq_getElem (by rw [← HKL.out]; omega)⟩
    have HYB := Lib.hid hy
    clear hbb a3 hy HBB HBB'
    go_wp2_with (first
      | (go_at_call 12; refine (num_any _ _).mono ?_; rintro e w' ⟨rfl, rfl⟩)
      | (at_builtin; refine wpList_append_rd rfl (.tmp 78) (.tmp 79) _ rfl w4.heap.size 5 i0 _ 1 1 Tryd.underlying22 hi0 hz0 hz1 hz2 rfl (by omega) (.slice (some ⟨w4.heap.size, 0, none⟩) 0 0) 0 [] rfl (World.ownsRow_lit w4 #[] 0 (Nat.le_refl _) (by simp [maxLen]) (by simp)) k c2 (bb.map b8) rfl (by rw [List.length_map, ← HKL.out]; omega) (HQ4.out.alloc (Nat.le_refl _) _) (b8_one bb) (by simp only [maxLen]; omega) (by omega) (by simp) ?_; intro v5 w5 o5 g5 a5; have b5 : Below w4.heap.size w4 w5 := (balloc (Below.refl _ w4) _).grown g5 (by simp) (by simp [Value.ownBlock]); rw [Nat.zero_add, List.nil_append] at o5; obtain ⟨gg, cap, rfl, hgg⟩ := own_form5 o5 (by omega); obtain ⟨z1, z2, z3⟩ := own_set o5 (i := i) (by omega); obtain ⟨A9, c9, hAe, hc9, hm9, _, _⟩ := own_row o5; injection hAe with e1 e2 e3; subst e1 e3; unfold maxLen at hm9; have hgl := own_lt o5 gg rfl; rw [List.getElem?_map, HYB.out] at z2; simp only [Option.map_some, b8] at z2; have HZ3 := Lib.hid z3; have HB5 := Lib.hid b5; clear g5 a5 o5 z3 b5 e2))
    have hxr : bits .xor .u8 (y.toNat : Int) (X.toNat : Int) = ((y ^^^ X).toNat : Int) := by rw [u8_xor_nat _ _ (UInt8.toNat_lt _) (UInt8.toNat_lt _), UInt8.toNat_xor]
    rw [hxr]
    have B6 : Below w4.heap.size w4 (w5.setCell ⟨gg, i, none⟩ (.int .u8 ((y ^^^ X).toNat : Int))) := HB5.out.setCell (p := ⟨gg, i, none⟩) hgg _
    have R6 := HZ3.out (.int .u8 ((y ^^^ X).toNat : Int))
    have hs6 : (w5.setCell ⟨gg, i, none⟩ (.int .u8 ((y ^^^ X).toNat : Int))).heap.size = w5.heap.size := by simp [World.setCell]
    generalize w5.setCell ⟨gg, i, none⟩ (.int .u8 ((y ^^^ X).toNat : Int)) = w6 at *
    obtain ⟨L, hL⟩ : ∃ L, L = layB bb i X := ⟨_, rfl⟩
    have hLb : (bb.map b8).set i (.int .u8 ((y ^^^ X).toNat : Int)) = L.map b8 := by
      rw [hL]
      unfold layB
      rw [List.getD, HYB.out, List.map_set]
      rfl
    rw [hLb] at R6
    have hLl : L.length = k := by rw [hL]; unfold layB; rw [List.length_set]; exact HKL.out.symm
    have HL1 := Lib.hid (show (0 < i ∨ decE L ≠ 0) → 152 ≤ decE L ∧ decE L ≤ 154 from fun h => by rw [hL, HBE.out] at h ⊢; exact lay_bad HEE.out.symm hi4 HA3.out h)
    have HL2 := Lib.hid (show i = 0 → decE L = 0 → dcmd L ≠ cm ∧ desL L = l from fun h0 h => by subst h0; rw [hL, HBE.out] at h ⊢; exact lay_good HEE.out.symm HF.out HA3.out h)
    have HD := Lib.hid (decode_any L k hLl (some ⟨gg, 0, none⟩) cap (gg + 1) w6 (HW.out.below (bnext HB1.out (bnext HB4.out B6))) R6 hc9 (by omega) (by omega))
    have HB6 := Lib.hid (bnext HB4.out B6)
    have x6 := HX4.out.below B6 HX4.out.lt
    unfold DecP at HD
    clear R6 B6 hL hLb hLl z1 z2 HZ3 HYB HBE HKL HB5 hxr
    generalize decE L = G at *
    generalize dcmd L = cg at *
    generalize desL L = D at *
    clear L
    refine HD.out.mono ?_
    rintro e w7 ⟨A7, c7, rfl, k1, k2, k3, k4, _⟩
    have x8 := (x6.below k4 x6.lt).alloc (.cells #[.int .i64 cg, .slice A7 D.length c7] 27)
    have y8 := Blk.new w7 27 #[.int .i64 cg, .slice A7 D.length c7]
    have b8' : Below w6.heap.size w6 (w7.alloc (.cells #[.int .i64 cg, .slice A7 D.length c7] 27)) := balloc k4 _
    have HB8 := Lib.hid (bnext HB6.out b8')
    have HR8 := Lib.hid (k3.alloc (Nat.le_refl _) (.cells #[.int .i64 cg, .slice A7 D.length c7] 27))
    have HX8 := Lib.hid x8
    have HY8 := Lib.hid y8
    clear k3 k4 b8' x6 x8 y8 HD HX4 HQ4
    rcases Nat.eq_zero_or_pos i with h0 | h0
    · by_cases hG : G = 0
      · obtain ⟨m1, m2⟩ := HL2.out h0 hG
        subst hG
        subst h0
        subst m2
        have hcg : (cg != cm) = true := by rw [bne_iff_ne]; exact m1
        have d7 := HX8.out
        have p7 := HY8.out
        have hm := HN.out
        have HS := Lib.hid (ersame_any D D D.length n c7 c _ _ rfl HN.out A7 A _ HR8.out (HRR.out _ HB8.out) (by omega))
        rw [decide_eq_true (rfl : D = D)] at HS
        have d0 := (d7).cell 0
        have d1 := (d7).cell 1
        simp only [List.getElem?_toArray, List.getElem?_cons_zero, List.getElem?_cons_succ] at d0 d1
        have p0 := (p7).cell 0
        have p1 := (p7).cell 1
        simp only [List.getElem?_toArray, List.getElem?_cons_zero, List.getElem?_cons_succ] at p0 p1
        clear d7 p7 m1 hm HL1 HL2
        go_wp2_with (first
          | (go_at_call 12; refine (num_any _ _).mono ?_; rintro e w' ⟨rfl, rfl⟩)
          | (go_at_call 17; refine HS.out.mono ?_; rintro e w9 ⟨rfl, mm, rfl⟩)
          | (go_at_call 8; refine (HWK.out _ (below_drewN HB8.out _)).mono ?_; rintro e w' ⟨rfl, b⟩))
        go_ret
        exact ⟨rfl, bnext HB1.out (bnext HB8.out (below_of_drewN b))⟩
      · obtain ⟨m1, m2⟩ := HL1.out (.inr hG)
        subst h0
        have hG' : (G != 0) = true := by simpa using hG
        clear HL1 HL2 hG
        go_wp2_with (first | (go_at_call 12; refine (num_any _ _).mono ?_; rintro e w' ⟨rfl, rfl⟩) | (go_at_call 8; refine (HWK.out _ HB8.out).mono ?_; rintro e w' ⟨rfl, b⟩))
        go_ret
        exact ⟨rfl, bnext HB1.out (bnext HB8.out b)⟩
    · obtain ⟨m1, m2⟩ := HL1.out (.inl h0)
      have h0' : (0 : Int) < (i : Int) := by omega
      clear HL1 HL2
      go_wp2_with (first | (go_at_call 12; refine (num_any _ _).mono ?_; rintro e w' ⟨rfl, rfl⟩) | (go_at_call 8; refine (HWK.out _ HB8.out).mono ?_; rintro e w' ⟨rfl, b⟩))
      go_ret
      exact ⟨rfl, bnext HB1.out (bnext HB8.out b)⟩
  · have hs0 : (E + F == 0) = false := by rw [beq_eq_false_iff_ne]; omega
    refine region_sub (by kernel_rfl) (by kernel_rfl) ?_
    repeat (first | go_big_quiet_step (((first | (go_at_call 12; exact sub_same (num_any _ _)) | (go_at_call 22; exact sub_below (HS1.out _))))) | quiet_step (((first | (go_at_call 12; exact sub_same (num_any _ _)) | (go_at_call 22; exact sub_below (HS1.out _))))))
    refine wpQuiet_nil ?_
    rintro _ ⟨v, rfl⟩
    clear hs0
    by_cases hE : E = 0
    · subst hE
      have HB4 := Lib.hid (bnext HB3.out v.2)
      have q4 := (HQ2.out.below v.2).more v.2.size
      have x4 := HX3.out.below v.2 HX3.out.lt
      obtain ⟨w4, hv4⟩ := v
      simp only at HB4 q4 x4 ⊢
      have HQ4 := Lib.hid q4
      have HX4 := Lib.hid x4
      clear hv4 d0 d1 p0 p1 cv1 cv2 HS1 hne q4 x4 HSB HSM HQ2 HX3
      by_cases a1 : at_ < 0
      · go_wp2_with (first | (go_at_call 12; refine (num_any _ _).mono ?_; rintro e w' ⟨rfl, rfl⟩) | (go_at_call 8; refine (HWK.out _ HB4.out).mono ?_; rintro e w' ⟨rfl, b⟩))
        go_ret
        exact ⟨rfl, bnext HB1.out (bnext HB4.out b)⟩
      by_cases a2 : 3 < at_
      · go_wp2_with (first | (go_at_call 12; refine (num_any _ _).mono ?_; rintro e w' ⟨rfl, rfl⟩) | (go_at_call 8; refine (HWK.out _ HB4.out).mono ?_; rintro e w' ⟨rfl, b⟩))
        go_ret
        exact ⟨rfl, bnext HB1.out (bnext HB4.out b)⟩
      by_cases a3 : X = 0
      · have hX0 : ((X.toNat : Int) == 0) = true := by rw [a3]; rfl
        clear a3
        go_wp2_with (first | (go_at_call 12; refine (num_any _ _).mono ?_; rintro e w' ⟨rfl, rfl⟩) | (go_at_call 8; refine (HWK.out _ HB4.out).mono ?_; rintro e w' ⟨rfl, b⟩))
        go_ret
        exact ⟨rfl, bnext HB1.out (bnext HB4.out b)⟩
      have hX0 : ((X.toNat : Int) == 0) = false := by rw [beq_eq_false_iff_ne]; intro h; exact a3 (UInt8.toNat_inj.1 (by simpa using h))
      obtain ⟨i, rfl⟩ : ∃ i : Nat, at_ = (i : Int) := ⟨at_.toNat, by omega⟩
      have hi4 : i < 4 := by omega
      have hbb := HBB.out rfl
      have hkl : 4 ≤ k ∧ k ≤ 504 := by
        have h1 := HKL.out
        rw [hbb, pkB_len, HN.out] at h1
        have h2 := (encE_zero HEE.out.symm).2.1
        rw [HN.out] at h2
        omega
      have HBE := Lib.hid hbb
      have HA3 := Lib.hid a3
      obtain ⟨y, hy⟩ : ∃ y, bb[i]? = some y := ⟨_, List.getElem?_eq_getElem (by rw [← HKL.out]; omega)⟩
      have HYB := Lib.hid hy
      clear hbb a3 hy HBB HBB'
      go_wp2_with (first
        | (go_at_call 12; refine (num_any _ _).mono ?_; rintro e w' ⟨rfl, rfl⟩)
        | (at_builtin; refine wpList_append_rd rfl (.tmp 78) (.tmp 79) _ rfl w4.heap.size 5 i0 _ 1 1 Tryd.underlying22 hi0 hz0 hz1 hz2 rfl (by omega) (.slice (some ⟨w4.heap.size, 0, none⟩) 0 0) 0 [] rfl (World.ownsRow_lit w4 #[] 0 (Nat.le_refl _) (by simp [maxLen]) (by simp)) k c2 (bb.map b8) rfl (by rw [List.length_map, ← HKL.out]; omega) (HQ4.out.alloc (Nat.le_refl _) _) (b8_one bb) (by simp only [maxLen]; omega) (by omega) (by simp) ?_; intro v5 w5 o5 g5 a5; have b5 : Below w4.heap.size w4 w5 := (balloc (Below.refl _ w4) _).grown g5 (by simp) (by simp [Value.ownBlock]); rw [Nat.zero_add, List.nil_append] at o5; obtain ⟨gg, cap, rfl, hgg⟩ := own_form5 o5 (by omega); obtain ⟨z1, z2, z3⟩ := own_set o5 (i := i) (by omega); obtain ⟨A9, c9, hAe, hc9, hm9, _, _⟩ := own_row o5; injection hAe with e1 e2 e3; subst e1 e3; unfold maxLen at hm9; have hgl := own_lt o5 gg rfl; rw [List.getElem?_map, HYB.out] at z2; simp only [Option.map_some, b8] at z2; have HZ3 := Lib.hid z3; have HB5 := Lib.hid b5; clear g5 a5 o5 z3 b5 e2))
      have hxr : bits .xor .u8 (y.toNat : Int) (X.toNat : Int) = ((y ^^^ X).toNat : Int) := by rw [u8_xor_nat _ _ (UInt8.toNat_lt _) (UInt8.toNat_lt _), UInt8.toNat_xor]
      rw [hxr]
      have B6 : Below w4.heap.size w4 (w5.setCell ⟨gg, i, none⟩ (.int .u8 ((y ^^^ X).toNat : Int))) := HB5.out.setCell (p := ⟨gg, i, none⟩) hgg _
      have R6 := HZ3.out (.int .u8 ((y ^^^ X).toNat : Int))
      have hs6 : (w5.setCell ⟨gg, i, none⟩ (.int .u8 ((y ^^^ X).toNat : Int))).heap.size = w5.heap.size := by simp [World.setCell]
      generalize w5.setCell ⟨gg, i, none⟩ (.int .u8 ((y ^^^ X).toNat : Int)) = w6 at *
      obtain ⟨L, hL⟩ : ∃ L, L = layB bb i X := ⟨_, rfl⟩
      have hLb : (bb.map b8).set i (.int .u8 ((y ^^^ X).toNat : Int)) = L.map b8 := by
        rw [hL]
        unfold layB
        rw [List.getD, HYB.out, List.map_set]
        rfl
      rw [hLb] at R6
      have hLl : L.length = k := by rw [hL]; unfold layB; rw [List.length_set]; exact HKL.out.symm
      have HL1 := Lib.hid (show (0 < i ∨ decE L ≠ 0) → 152 ≤ decE L ∧ decE L ≤ 154 from fun h => by rw [hL, HBE.out] at h ⊢; exact lay_bad HEE.out.symm hi4 HA3.out h)
      have HL2 := Lib.hid (show i = 0 → decE L = 0 → dcmd L ≠ cm ∧ desL L = l from fun h0 h => by subst h0; rw [hL, HBE.out] at h ⊢; exact lay_good HEE.out.symm HF.out HA3.out h)
      have HD := Lib.hid (decode_any L k hLl (some ⟨gg, 0, none⟩) cap (gg + 1) w6 (HW.out.below (bnext HB1.out (bnext HB4.out B6))) R6 hc9 (by omega) (by omega))
      have HB6 := Lib.hid (bnext HB4.out B6)
      have x6 := HX4.out.below B6 HX4.out.lt
      unfold DecP at HD
      clear R6 B6 hL hLb hLl z1 z2 HZ3 HYB HBE HKL HB5 hxr
      generalize decE L = G at *
      generalize dcmd L = cg at *
      generalize desL L = D at *
      clear L
      refine HD.out.mono ?_
      rintro e w7 ⟨A7, c7, rfl, k1, k2, k3, k4, _⟩
      have x8 := (x6.below k4 x6.lt).alloc (.cells #[.int .i64 cg, .slice A7 D.length c7] 27)
      have y8 := Blk.new w7 27 #[.int .i64 cg, .slice A7 D.length c7]
      have b8' : Below w6.heap.size w6 (w7.alloc (.cells #[.int .i64 cg, .slice A7 D.length c7] 27)) := balloc k4 _
      have HB8 := Lib.hid (bnext HB6.out b8')
      have HR8 := Lib.hid (k3.alloc (Nat.le_refl _) (.cells #[.int .i64 cg, .slice A7 D.length c7] 27))
      have HX8 := Lib.hid x8
      have HY8 := Lib.hid y8
      clear k3 k4 b8' x6 x8 y8 HD HX4 HQ4
      rcases Nat.eq_zero_or_pos i with h0 | h0
      · by_cases hG : G = 0
        · obtain ⟨m1, m2⟩ := HL2.out h0 hG
          subst hG
          subst h0
          subst m2
          have hcg : (cg != cm) = true := by rw [bne_iff_ne]; exact m1
          have d7 := HX8.out
          have p7 := HY8.out
          have hm := HN.out
          have HS := Lib.hid (ersame_any D D D.length n c7 c _ _ rfl HN.out A7 A _ HR8.out (HRR.out _ HB8.out) (by omega))
          rw [decide_eq_true (rfl : D = D)] at HS
          have d0 := (d7).cell 0
          have d1 := (d7).cell 1
          simp only [List.getElem?_toArray, List.getElem?_cons_zero, List.getElem?_cons_succ] at d0 d1
          have p0 := (p7).cell 0
          have p1 := (p7).cell 1
          simp only [List.getElem?_toArray, List.getElem?_cons_zero, List.getElem?_cons_succ] at p0 p1
          clear d7 p7 m1 hm HL1 HL2
          go_wp2_with (first
            | (go_at_call 12; refine (num_any _ _).mono ?_; rintro e w' ⟨rfl, rfl⟩)
            | (go_at_call 17; refine HS.out.mono ?_; rintro e w9 ⟨rfl, mm, rfl⟩)
            | (go_at_call 8; refine (HWK.out _ (below_drewN HB8.out _)).mono ?_; rintro e w' ⟨rfl, b⟩))
          go_ret
          exact ⟨rfl, bnext HB1.out (bnext HB8.out (below_of_drewN b))⟩
        · obtain ⟨m1, m2⟩ := HL1.out (.inr hG)
          subst h0
          have hG' : (G != 0) = true := by simpa using hG
          clear HL1 HL2 hG
          go_wp2_with (first | (go_at_call 12; refine (num_any _ _).mono ?_; rintro e w' ⟨rfl, rfl⟩) | (go_at_call 8; refine (HWK.out _ HB8.out).mono ?_; rintro e w' ⟨rfl, b⟩))
          go_ret
          exact ⟨rfl, bnext HB1.out (bnext HB8.out b)⟩
      · obtain ⟨m1, m2⟩ := HL1.out (.inl h0)
        have h0' : (0 : Int) < (i : Int) := by omega
        clear HL1 HL2
        go_wp2_with (first | (go_at_call 12; refine (num_any _ _).mono ?_; rintro e w' ⟨rfl, rfl⟩) | (go_at_call 8; refine (HWK.out _ HB8.out).mono ?_; rintro e w' ⟨rfl, b⟩))
        go_ret
        exact ⟨rfl, bnext HB1.out (bnext HB8.out b)⟩
    · have hE' : (E != 0) = true := by simpa using hE
      have HB4 := Lib.hid (bnext HB3.out v.2)
      go_wp2_with (first | (go_at_call 12; refine (num_any _ _).mono ?_; rintro e w' ⟨rfl, rfl⟩) | (go_at_call 8; refine (HWK.out _ HB4.out).mono ?_; rintro e w' ⟨rfl, b⟩))
      go_ret
      exact ⟨rfl, bnext HB1.out (bnext HB4.out b)⟩
end Go.Proofs.YtpadlillbofpnaaDoor
