/- EntryBytes: the walk. -/
import Derived.Test.YtacdanpgdgdjfaaDoorEBy3
import Derived.Test.YtacdanpgdgdjfaaDoorWorks4
import Derived.Test.YtacdanpgdgdjfaaDoorEq
namespace Go.Proofs.YtacdanpgdgdjfaaDoor
set_option linter.unusedVariables false
set_option linter.unusedSimpArgs false
open Go.RowKit
set_option maxRecDepth 100000

set_option maxHeartbeats 8000000 in
theorem ebytes_walk (f t : Int) (a m x k : Nat) (l : List UInt8) (A : Option Addr) (c : Nat) (w : World) (hw : WidthsAt w) (ha : a < 4294967296) (hm : m < 4294967296) (hx : x < 4294967296) (hk : k < 4294967296)
    (hlc : l.length ≤ c) (hcm : c ≤ 9223372036854775807) (hr : Rd w w.heap.size A (l.map b8)) :
    Calls Tryd.prog 6 #[.agg #[.int .i64 f, .int .i64 t, .int .u32 a, .int .u32 m, .int .u32 x, .int .u32 k], .slice A l.length c] w fun e w' => e = .returned (.bool true) ∧ Below w.heap.size w w' := by
  obtain ⟨i0, hi0, hz0, hz1, hz2⟩ := info_parts u8_info
  have HW := Lib.hid hw
  have HR := Lib.hid hr
  have HX := Lib.hid (Blk.new w 25 #[.int .i64 f, .int .i64 t, .int .u32 a, .int .u32 m, .int .u32 x, .int .u32 k])
  have B0 : Below w.heap.size w (w.alloc (.cells #[.int .i64 f, .int .i64 t, .int .u32 a, .int .u32 m, .int .u32 x, .int .u32 k] 25)) := balloc (Below.refl _ _) _
  clear hw hr
  by_cases hl : 60 < l.length
  · go_enter Tryd.func6, Tryd.ntmps6
    go_wp2_with fail
    refine (works_any _ (HW.out.below B0)).mono ?_
    rintro e w1 ⟨rfl, b1⟩
    go_wp2_with fail
    go_ret
    exact ⟨rfl, bnext B0 b1⟩
  have hQ : ∃ (v0 v1 v2 v3 v4 v5 : Nat) (er : Int), (∀ W, WidthsAt W → Rd W W.heap.size A (l.map b8) → Calls Tryd.prog 20 #[.slice A l.length c] W fun e w' => e = .returned (.tuple #[.agg #[.int .i64 v0, .int .i64 v1, .int .u32 v2, .int .u32 v3, .int .u32 v4, .int .u32 v5], .int .i64 er]) ∧ Below W.heap.size W w') ∧
      (∀ W, Rd W W.heap.size A (l.map b8) → Calls Tryd.prog 21 #[.slice A l.length c] W fun e w' => e = .returned (.tuple #[.agg #[.int .i64 v0, .int .i64 v1, .int .u32 v2, .int .u32 v3, .int .u32 v4, .int .u32 v5], .int .i64 er]) ∧ Below W.heap.size W w') ∧
      (er = 130 ∨ (er = 0 ∧ 20 ≤ l.length ∧ (v0 < 65536 ∧ v1 < 65536 ∧ v2 < 4294967296 ∧ v3 < 4294967296 ∧ v4 < 4294967296 ∧ v5 < 4294967296) ∧ entB v0 v1 v2 v3 v4 v5 = l.take 20)) := by
    by_cases h20 : 20 ≤ l.length
    · exact ⟨_, _, _, _, _, _, 0, fun W h1 h2 => eread_ok l A c W h1 h2 hlc hcm h20, fun W h => refERead_ok l A c W h hlc hcm h20, .inr ⟨rfl, h20, ⟨fld_lt l 0 2, fld_lt l 2 2, fld_lt l 4 4, fld_lt l 8 4, fld_lt l 12 4, fld_lt l 16 4⟩, entB_read l h20⟩⟩
    · exact ⟨0, 0, 0, 0, 0, 0, 130, fun W h1 h2 => eread_bad l A c W h1 h2 hlc hcm (by omega), fun W _ => refERead_bad l A c W (by omega), .inl rfl⟩
  obtain ⟨v0, v1, v2, v3, v4, v5, er, hc1, hc2, hc⟩ := hQ
  have CR := Lib.hid hc1
  have CF := Lib.hid hc2
  have HC := Lib.hid hc
  have hNE := ne_ent v0 v1 v2 v3 v4 v5 v0 v1 v2 v3 v4 v5
  simp only [beq_self_eq_true, Bool.and_self, Bool.not_true] at hNE
  have hd1 : (er != er) = false := by simp
  clear hc1 hc2 hc
  go_enter Tryd.func6, Tryd.ntmps6
  go_wp2_with fail
  with_reducible refine (CR.out _ (HW.out.below B0) ((HR.out.below B0).more B0.size)).mono ?_
  rintro e w1 ⟨rfl, b1⟩
  have HX1 := Lib.hid ((HX.out.below b1 HX.out.lt).alloc (.cells #[.int .i64 v0, .int .i64 v1, .int .u32 v2, .int .u32 v3, .int .u32 v4, .int .u32 v5] 25))
  have HY1 := Lib.hid (Blk.new w1 25 #[.int .i64 v0, .int .i64 v1, .int .u32 v2, .int .u32 v3, .int .u32 v4, .int .u32 v5])
  have B1 := balloc (bnext B0 b1) (.cells #[.int .i64 v0, .int .i64 v1, .int .u32 v2, .int .u32 v3, .int .u32 v4, .int .u32 v5] 25)
  clear b1 HX B0
  go_wp2_with fail
  with_reducible refine (CF.out _ ((HR.out.below B1).more B1.size)).mono ?_
  rintro e w2 ⟨rfl, b2⟩
  have HX2 := Lib.hid ((HX1.out.below b2 HX1.out.lt).alloc (.cells #[.int .i64 v0, .int .i64 v1, .int .u32 v2, .int .u32 v3, .int .u32 v4, .int .u32 v5] 25))
  have HY2 := Lib.hid ((HY1.out.below b2 HY1.out.lt).alloc (.cells #[.int .i64 v0, .int .i64 v1, .int .u32 v2, .int .u32 v3, .int .u32 v4, .int .u32 v5] 25))
  have B2 := balloc (bnext B1 b2) (.cells #[.int .i64 v0, .int .i64 v1, .int .u32 v2, .int .u32 v3, .int .u32 v4, .int .u32 v5] 25)
  have d0 := (HY2.out).cell 0
  have d1 := (HY2.out).cell 1
  have d2 := (HY2.out).cell 2
  have d3 := (HY2.out).cell 3
  have d4 := (HY2.out).cell 4
  have d5 := (HY2.out).cell 5
  simp only [List.getElem?_toArray, List.getElem?_cons_zero, List.getElem?_cons_succ] at d0 d1 d2 d3 d4 d5
  clear b2 HX1 HY1 B1 CR CF
  go_upto_if 39 with (first | (go_at_call 12; refine (num_any _ _).mono ?_; rintro e w' ⟨rfl, rfl⟩))
  generalize hwz : w2.alloc (.cells #[.int .i64 v0, .int .i64 v1, .int .u32 v2, .int .u32 v3, .int .u32 v4, .int .u32 v5] 25) = wz at *
  clear hwz hNE hd1
  go_cut [] (fun wx => Below wz.heap.size wz wx)
  case first =>
    rcases HC.out with rfl | ⟨rfl, h20, ⟨u0, u1, u2, u3, u4, u5⟩, hE⟩
    · go_wp2_with fail
      go_meet
      exact Below.refl _ _
    · have CB := Lib.hid (bytes_ok v0 v1 v2 v3 v4 v5 wz (HW.out.below B2) u0 u1 u2 u3 u4 u5)
      rw [hE] at CB
      have hlen : (l.take 20).length = 20 := by simp; omega
      have HE := Lib.hid (And.intro hE hlen)
      clear hE hlen
      go_wp2_with fail
      with_reducible refine CB.out.mono ?_
      rintro e w3 ⟨A3, c3, rfl, g3, g3', r3, b3⟩
      clear d0 d1 d2 d3 d4 d5
      go_wp2_with fail
      have hne : Nonempty (Sub w3) := ⟨⟨_, Below.refl _ _⟩⟩
      have HR3 := Lib.hid (show Rd w3 w3.heap.size A ((l.take 20).map b8) from by
        have h := (HR.out.below (bnext B2 b3)).more (bnext B2 b3).size
        rw [← List.take_append_drop 20 l, List.map_append] at h
        exact h.pre)
      have HR4 := Lib.hid r3
      have f1 : ∀ v : Sub w3, (convert 47 9 (.slice A3 20 c3)).run Tryd.prog v.1 = .ok (.string (str (l.take 20))) v.1 := fun v => by
        have := conv_rd 47 9 5 Tryd.underlying47 Tryd.underlying5 Tryd.underlying9 c3 (HR4.out.below v.2)
        rwa [HE.out.2] at this
      have f2 : ∀ v : Sub w3, (convert 47 9 (.slice A 20 c)).run Tryd.prog v.1 = .ok (.string (str (l.take 20))) v.1 := fun v => by
        have := conv_rd 47 9 5 Tryd.underlying47 Tryd.underlying5 Tryd.underlying9 c (HR3.out.below v.2)
        rwa [HE.out.2] at this
      have hss := str_same (l.take 20)
      clear r3
      refine region_sub (by kernel_rfl) (by kernel_rfl) ?_
      repeat (first | go_big_quiet_step ((first | (go_at_call 12; exact sub_same (num_any _ _)))) | quiet_step ((first | (go_at_call 12; exact sub_same (num_any _ _)))))
      refine wpQuiet_nil ?_
      rintro _ ⟨u, rfl⟩
      go_wp2_with fail
      go_meet
      exact bnext b3 u.2
  case rest =>
    rename_i wc0
    have b4 := hcut
    have HX4 := Lib.hid (HX2.out.below b4 HX2.out.lt)
    have B4 := bnext B2 b4
    clear hcut b4 HX2 HY2 B2 HC
    have hBx := fun W (h : WidthsAt W) => bytes_any f t a m x k W h ha hm hx hk
    have hRt := fun W => refRightE_any f t a m x k W
    by_cases hrt : 0 ≤ f ∧ f ≤ 65535 ∧ 0 ≤ t ∧ t ≤ 65535
    · obtain ⟨f, rfl⟩ := Int.eq_ofNat_of_zero_le hrt.1
      obtain ⟨t, rfl⟩ := Int.eq_ofNat_of_zero_le hrt.2.2.1
      have hf6 : f < 65536 := by omega
      have ht6 : t < 65536 := by omega
      have e1 : bytF f t a m x k = (entB f t a m x k, 0) := by unfold bytF; rw [if_pos hrt]; simp
      have e2 : rightF f t = true := by unfold rightF; simpa using hrt
      rw [e1] at hBx
      rw [e2] at hRt
      have CB := Lib.hid hBx
      have CT := Lib.hid hRt
      have CZ := Lib.hid (fun W => refEBytes_any f t a m x k W hf6 ht6 ha hm hx hk)
      have HL := Lib.hid (show (entB f t a m x k).length = 20 by simp [entB, bs_length])
      have HRE := Lib.hid (read_entB f t a m x k l hf6 ht6 ha hm hx hk)
      clear hBx hRt e1 e2 hrt
      generalize entB f t a m x k = lx at *
      have hl20 : lx.length ≤ 20 := by have := HL.out; omega
      have hl20' : 20 ≤ lx.length := by have := HL.out; omega
      have d0 := (HX4.out).cell 0
      have d1 := (HX4.out).cell 1
      have d2 := (HX4.out).cell 2
      have d3 := (HX4.out).cell 3
      have d4 := (HX4.out).cell 4
      have d5 := (HX4.out).cell 5
      simp only [List.getElem?_toArray, List.getElem?_cons_zero, List.getElem?_cons_succ] at d0 d1 d2 d3 d4 d5
      go_wp2_with fail
      refine (CB.out _ (HW.out.below B4)).mono ?_
      rintro e w5 ⟨A5, c5, rfl, g5, g5', r5, b5⟩
      clear d0 d1 d2 d3 d4 d5
      have HX5 := Lib.hid (HX4.out.below b5 HX4.out.lt)
      have B5 := bnext B4 b5
      have d0 := (HX5.out).cell 0
      have d1 := (HX5.out).cell 1
      have d2 := (HX5.out).cell 2
      have d3 := (HX5.out).cell 3
      have d4 := (HX5.out).cell 4
      have d5 := (HX5.out).cell 5
      simp only [List.getElem?_toArray, List.getElem?_cons_zero, List.getElem?_cons_succ] at d0 d1 d2 d3 d4 d5
      go_wp2_with fail
      refine (CT.out _).mono ?_
      rintro e w6 ⟨rfl, b6⟩
      have HX6 := Lib.hid (HX5.out.below b6 HX5.out.lt)
      have B6 := bnext B5 b6
      have r6 := (r5.below b6).more b6.size
      have q6 := (HR.out.below B6).more B6.size
      clear d0 d1 d2 d3 d4 d5
      clear b5 b6 r5 B4 B5 HX4 HX5 CB CT
      go_wp2_with (first
        | (at_builtin; refine wpList_append_rd rfl (.tmp 76) (.tmp 77) _ rfl w6.heap.size 5 i0 _ 1 1 Tryd.underlying47 hi0 hz0 hz1 hz2 rfl (by omega) (.slice (some ⟨w6.heap.size, 0, none⟩) 0 0) 0 [] rfl (World.ownsRow_lit w6 #[] 0 (Nat.le_refl _) (by simp [maxLen]) (by simp)) lx.length c5 (lx.map b8) rfl (by simp) (r6.alloc (Nat.le_refl _) _) (b8_one lx) (by simp only [maxLen]; omega) (by omega) (by simp) ?_; intro v7 w7 o7 g7 a7; have b7 : Below w6.heap.size w6 w7 := (balloc (Below.refl _ w6) _).grown g7 (by simp) (by simp [Value.ownBlock]))
        | (at_builtin; refine wpList_append_rd rfl (.tmp 78) (.tmp 79) _ rfl w6.heap.size 5 i0 _ 1 1 Tryd.underlying47 hi0 hz0 hz1 hz2 rfl (by omega) v7 _ _ rfl o7 l.length c (l.map b8) rfl (by simp) (q6.below b7) (b8_one l) (by simp only [maxLen]; omega) (by omega) b7.size ?_; intro v8 w8 o8 g8 a8; have b8' : Below w6.heap.size w6 w8 := b7.grown g8 b7.size (own_base o7); obtain ⟨A8, c8, rfl, h8c, h8m, r8⟩ := own_shape o8))
      have CRd : Calls Tryd.prog 20 #[.slice A8 (lx.length + l.length) c8] w8 (fun e w' => e = .returned (.tuple #[.agg #[.int .i64 f, .int .i64 t, .int .u32 a, .int .u32 m, .int .u32 x, .int .u32 k], .int .i64 0]) ∧ Below w8.heap.size w8 w') := by
        have hl8 : (lx ++ l).length = lx.length + l.length := by simp
        have h := eread_ok (lx ++ l) A8 c8 w8 (HW.out.below (bnext B6 b8')) (by simpa using r8) (by rw [hl8]; omega) (by unfold maxLen at h8m; omega) (by rw [hl8]; omega)
        rw [hl8, HRE.out] at h
        exact h
      refine CRd.mono ?_
      rintro e w9 ⟨rfl, b9⟩
      have b10 : Below w6.heap.size w6 (w9.alloc (.cells #[.int .i64 f, .int .i64 t, .int .u32 a, .int .u32 m, .int .u32 x, .int .u32 k] 25)) := balloc (bnext b8' b9) _
      have HX9 := Lib.hid (HX6.out.below b10 HX6.out.lt)
      have HU9 := Lib.hid (Blk.new w9 25 #[.int .i64 f, .int .i64 t, .int .u32 a, .int .u32 m, .int .u32 x, .int .u32 k])
      have HR9 := Lib.hid ((r6.below b10).more b10.size)
      have B9 := bnext B6 b10
      clear CRd o7 o8 g7 g8 a7 a8 b7 b8' b9 b10 r8 h8c h8m q6 r6 HX6 B6
      go_wp2_with fail
      generalize hwq : w9.alloc (.cells #[.int .i64 f, .int .i64 t, .int .u32 a, .int .u32 m, .int .u32 x, .int .u32 k] 25) = wq at *
      generalize hgu : w9.heap.size = gu at *
      clear hwq hgu
      have d0 := (HX9.out).cell 0
      have d1 := (HX9.out).cell 1
      have d2 := (HX9.out).cell 2
      have d3 := (HX9.out).cell 3
      have d4 := (HX9.out).cell 4
      have d5 := (HX9.out).cell 5
      simp only [List.getElem?_toArray, List.getElem?_cons_zero, List.getElem?_cons_succ] at d0 d1 d2 d3 d4 d5
      have p0 := (HU9.out).cell 0
      have p1 := (HU9.out).cell 1
      have p2 := (HU9.out).cell 2
      have p3 := (HU9.out).cell 3
      have p4 := (HU9.out).cell 4
      have p5 := (HU9.out).cell 5
      simp only [List.getElem?_toArray, List.getElem?_cons_zero, List.getElem?_cons_succ] at p0 p1 p2 p3 p4 p5
      have s0x : Cells6 w.heap.size f t a m x k wq.drew := ⟨d0, d1, d2, d3, d4, d5⟩
      have s0u : Cells6 gu f t a m x k wq.drew := ⟨p0, p1, p2, p3, p4, p5⟩
      have cv := fun (W : World) (h : Rd W W.heap.size A5 (lx.map b8)) => conv_rd (P := Tryd.prog) 47 9 5 Tryd.underlying47 Tryd.underlying5 Tryd.underlying9 c5 h
      have CV := Lib.hid cv
      have f0 : (convert 47 9 (.slice A5 lx.length c5)).run Tryd.prog wq.drew = .ok (.string (str lx)) wq.drew := cv wq.drew HR9.out
      have hR0 : Rd wq.drew wq.drew.heap.size A5 (lx.map b8) := HR9.out
      have hEx := eq_ent f t a m x k f t a m x k
      simp only [beq_self_eq_true, Bool.and_self] at hEx
      have t1 := str_toList lx
      have Bq : Below w.heap.size w wq.drew := Below.drew B9
      clear d0 d1 d2 d3 d4 d5 p0 p1 p2 p3 p4 p5
      clear cv
      obtain ⟨d0, d1, d2, d3, d4, d5⟩ := id s0x
      obtain ⟨p0, p1, p2, p3, p4, p5⟩ := id s0u
      have S0X := Lib.hid s0x
      have S0U := Lib.hid s0u
      have HR0 := Lib.hid hR0
      clear s0x s0u hR0
      go_region_with (first
        | (go_at_call 23; refine (CZ.out wq.drew).mono ?_; rintro e w10 ⟨A10, c10, rfl, y1, y2, y3, y4, y5⟩; obtain ⟨m0, m1, m2, m3, m4, m5⟩ := cells_below S0X.out y4; obtain ⟨n0, n1, n2, n3, n4, n5⟩ := cells_below S0U.out y4; have f1 := CV.out w10 (HR0.out.next y4); have fz := conv_rd (P := Tryd.prog) 47 9 5 Tryd.underlying47 Tryd.underlying5 Tryd.underlying9 c10 y3; have y3' := Lib.hid y3; clear y3)
        | (go_at_call 12; refine (num_any _ _).mono ?_; rintro e w' ⟨rfl, rfl⟩)
        | (go_at_call 14; refine (works_any w10 (HW.out.below (bnext Bq y4))).mono ?_; rintro e w11 ⟨rfl, b11⟩))
      all_goals
        go_wp2_with fail
        go_ret
        exact ⟨rfl, bnext (bnext Bq y4) b11⟩
    · have e1 : bytF f t a m x k = ([], 2) := by unfold bytF; rw [if_neg hrt]
      have e2 : rightF f t = false := by unfold rightF; simpa using hrt
      rw [e1] at hBx
      rw [e2] at hRt
      have CB := Lib.hid hBx
      have CT := Lib.hid hRt
      clear hBx hRt e1 e2 hrt
      have d0 := (HX4.out).cell 0
      have d1 := (HX4.out).cell 1
      have d2 := (HX4.out).cell 2
      have d3 := (HX4.out).cell 3
      have d4 := (HX4.out).cell 4
      have d5 := (HX4.out).cell 5
      simp only [List.getElem?_toArray, List.getElem?_cons_zero, List.getElem?_cons_succ] at d0 d1 d2 d3 d4 d5
      go_wp2_with fail
      refine (CB.out _ (HW.out.below B4)).mono ?_
      rintro e w5 ⟨A5, c5, rfl, g5, g5', r5, b5⟩
      clear d0 d1 d2 d3 d4 d5
      have HX5 := Lib.hid (HX4.out.below b5 HX4.out.lt)
      have B5 := bnext B4 b5
      have d0 := (HX5.out).cell 0
      have d1 := (HX5.out).cell 1
      have d2 := (HX5.out).cell 2
      have d3 := (HX5.out).cell 3
      have d4 := (HX5.out).cell 4
      have d5 := (HX5.out).cell 5
      simp only [List.getElem?_toArray, List.getElem?_cons_zero, List.getElem?_cons_succ] at d0 d1 d2 d3 d4 d5
      go_wp2_with fail
      refine (CT.out _).mono ?_
      rintro e w6 ⟨rfl, b6⟩
      have B6 := bnext B5 b6
      go_wp2_with (first | (go_at_call 12; refine (num_any _ _).mono ?_; rintro e w' ⟨rfl, rfl⟩))
      refine (works_any _ (HW.out.below B6)).mono ?_
      rintro e w7 ⟨rfl, b7⟩
      go_wp2_with fail
      go_ret
      exact ⟨rfl, bnext B6 b7⟩
end Go.Proofs.YtacdanpgdgdjfaaDoor
