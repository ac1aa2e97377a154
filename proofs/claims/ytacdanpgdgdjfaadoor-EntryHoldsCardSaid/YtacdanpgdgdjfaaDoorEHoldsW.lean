/- EntryHolds: the walk. -/
import Derived.Test.YtacdanpgdgdjfaaDoorEHolds
namespace Go.Proofs.YtacdanpgdgdjfaaDoor
set_option linter.unusedVariables false
set_option linter.unusedSimpArgs false
open Go.RowKit
set_option maxRecDepth 100000

set_option maxHeartbeats 8000000 in
theorem eholds_walk (f t f' t' : Int) (a m x k a' m' x' k' : Nat) (w : World) (hw : WidthsAt w) (ha : a < 4294967296) (hm : m < 4294967296) (hx : x < 4294967296) (hk : k < 4294967296)
    (ha' : a' < 4294967296) (hm' : m' < 4294967296) (hx' : x' < 4294967296) (hk' : k' < 4294967296) :
    Calls Tryd.prog 5 #[.agg #[.int .i64 f, .int .i64 t, .int .u32 a, .int .u32 m, .int .u32 x, .int .u32 k], .agg #[.int .i64 f', .int .i64 t', .int .u32 a', .int .u32 m', .int .u32 x', .int .u32 k']] w fun e w' => e = .returned (.bool true) ∧ Below w.heap.size w w' := by
  have HW := Lib.hid hw
  have hB1 := fun W (h : WidthsAt W) => bytes_any f t a m x k W h ha hm hx hk
  have hB2 := fun W (h : WidthsAt W) => bytes_any f' t' a' m' x' k' W h ha' hm' hx' hk'
  have hS := bytF_same f t f' t' a m x k a' m' x' k' ha hm hx hk ha' hm' hx' hk'
  generalize bytF f t a m x k = r1 at *
  generalize bytF f' t' a' m' x' k' = r2 at *
  obtain ⟨l1, e1⟩ := r1
  obtain ⟨l2, e2⟩ := r2
  simp only at hS
  have CB1 := Lib.hid hB1
  have CB2 := Lib.hid hB2
  have HS := Lib.hid hS
  have HX := Lib.hid ((Blk.new w 25 #[.int .i64 f, .int .i64 t, .int .u32 a, .int .u32 m, .int .u32 x, .int .u32 k]).alloc (.cells #[.int .i64 f', .int .i64 t', .int .u32 a', .int .u32 m', .int .u32 x', .int .u32 k'] 25))
  have hY0 := Blk.new (w.alloc (.cells #[.int .i64 f, .int .i64 t, .int .u32 a, .int .u32 m, .int .u32 x, .int .u32 k] 25)) 25 #[.int .i64 f', .int .i64 t', .int .u32 a', .int .u32 m', .int .u32 x', .int .u32 k']
  rw [World.size_alloc] at hY0
  have HY := Lib.hid hY0
  have B0 : Below w.heap.size w ((w.alloc (.cells #[.int .i64 f, .int .i64 t, .int .u32 a, .int .u32 m, .int .u32 x, .int .u32 k] 25)).alloc (.cells #[.int .i64 f', .int .i64 t', .int .u32 a', .int .u32 m', .int .u32 x', .int .u32 k'] 25)) := balloc (balloc (Below.refl _ _) _) _
  clear hB1 hB2 hS hY0 hw
  go_enter Tryd.func5, Tryd.ntmps5
  go_wp2_with fail
  refine (CB1.out _ (HW.out.below B0)).mono ?_
  rintro e w1 ⟨A1, c1, rfl, g1, g1', r1, b1⟩
  have HX1 := Lib.hid (HX.out.below b1 HX.out.lt)
  have HY1 := Lib.hid (HY.out.below b1 HY.out.lt)
  have HR1 := Lib.hid r1
  replace b1 := bnext B0 b1
  clear HX HY r1 B0
  have d0 := (HY1.out).cell 0
  have d1 := (HY1.out).cell 1
  have d2 := (HY1.out).cell 2
  have d3 := (HY1.out).cell 3
  have d4 := (HY1.out).cell 4
  have d5 := (HY1.out).cell 5
  simp only [List.getElem?_toArray, List.getElem?_cons_zero, List.getElem?_cons_succ] at d0 d1 d2 d3 d4 d5
  go_wp2_with fail
  refine (CB2.out _ (HW.out.below b1)).mono ?_
  rintro e w2 ⟨A2, c2, rfl, g2, g2', r2, b2⟩
  clear d0 d1 d2 d3 d4 d5
  have HX2 := Lib.hid (HX1.out.below b2 HX1.out.lt)
  have HY2 := Lib.hid (HY1.out.below b2 HY1.out.lt)
  have HRa := Lib.hid ((HR1.out.below b2).more b2.size)
  have HRb := Lib.hid r2
  replace b2 := bnext b1 b2
  clear HX1 HY1 HR1 r2 b1 CB1 CB2
  go_upto_region 3 with fail
  go_cut [41] (fun s wx => s = .bool false ∧ Below w2.heap.size w2 wx)
  case first =>
    have hne : Nonempty (Sub w2) := ⟨⟨_, Below.refl _ _⟩⟩
    have p0 := fun v : Sub w2 => ((HX2.out).below v.2 (HX2.out).lt).cell 0
    have p1 := fun v : Sub w2 => ((HX2.out).below v.2 (HX2.out).lt).cell 1
    have p2 := fun v : Sub w2 => ((HX2.out).below v.2 (HX2.out).lt).cell 2
    have p3 := fun v : Sub w2 => ((HX2.out).below v.2 (HX2.out).lt).cell 3
    have p4 := fun v : Sub w2 => ((HX2.out).below v.2 (HX2.out).lt).cell 4
    have p5 := fun v : Sub w2 => ((HX2.out).below v.2 (HX2.out).lt).cell 5
    simp only [List.getElem?_toArray, List.getElem?_cons_zero, List.getElem?_cons_succ] at p0 p1 p2 p3 p4 p5
    have q0 := fun v : Sub w2 => ((HY2.out).below v.2 (HY2.out).lt).cell 0
    have q1 := fun v : Sub w2 => ((HY2.out).below v.2 (HY2.out).lt).cell 1
    have q2 := fun v : Sub w2 => ((HY2.out).below v.2 (HY2.out).lt).cell 2
    have q3 := fun v : Sub w2 => ((HY2.out).below v.2 (HY2.out).lt).cell 3
    have q4 := fun v : Sub w2 => ((HY2.out).below v.2 (HY2.out).lt).cell 4
    have q5 := fun v : Sub w2 => ((HY2.out).below v.2 (HY2.out).lt).cell 5
    simp only [List.getElem?_toArray, List.getElem?_cons_zero, List.getElem?_cons_succ] at q0 q1 q2 q3 q4 q5
    rcases HS.out with ⟨rfl, rfl, hs⟩ | hz
    · have f1 : ∀ v : Sub w2, (convert 47 9 (.slice A1 l1.length c1)).run Tryd.prog v.1 = .ok (.string (str l1)) v.1 := fun v => conv_rd 47 9 5 Tryd.underlying47 Tryd.underlying5 Tryd.underlying9 c1 (HRa.out.below v.2)
      have f2 : ∀ v : Sub w2, (convert 47 9 (.slice A2 l2.length c2)).run Tryd.prog v.1 = .ok (.string (str l2)) v.1 := fun v => conv_rd 47 9 5 Tryd.underlying47 Tryd.underlying5 Tryd.underlying9 c2 (HRb.out.below v.2)
      have hE := eq_ent f t a m x k f' t' a' m' x' k'
      rw [← hs] at hE
      have t1 := str_toList l1
      have t2 := str_toList l2
      clear hs
      refine region_sub (by kernel_rfl) (by kernel_rfl) ?_
      repeat (first | go_big_quiet_step ((first | (go_at_call 12; exact sub_same (num_any _ _)))) | quiet_step ((first | (go_at_call 12; exact sub_same (num_any _ _)))))
      refine wpQuiet_nil ?_
      rintro _ ⟨u, rfl⟩
      go_wp2_with fail
      go_meet
      exact ⟨rfl, u.2⟩
    · refine region_sub (by kernel_rfl) (by kernel_rfl) ?_
      repeat (first | go_big_quiet_step ((first | (go_at_call 12; exact sub_same (num_any _ _)))) | quiet_step ((first | (go_at_call 12; exact sub_same (num_any _ _)))))
      refine wpQuiet_nil ?_
      rintro _ ⟨u, rfl⟩
      go_wp2_with fail
      go_meet
      exact ⟨rfl, u.2⟩
  case rest =>
    obtain ⟨rfl, b3⟩ := hcut
    have hP1 := fun W => prefix_any f t a m x k W ha hm hx hk
    have hP2 := fun W => prefix_any f' t' a' m' x' k' W ha' hm' hx' hk'
    have hY := fun W => why_any f t a m x k W ha hm hx hk
    have HX3 := Lib.hid (HX2.out.below b3 HX2.out.lt)
    have HY3 := Lib.hid (HY2.out.below b3 HY2.out.lt)
    replace b3 := bnext b2 b3
    clear HX2 HY2 HRa HRb b2 HS g1 g1' g2 g2'
    rcases prefF_cases f a m x k with ⟨hpf, hwy⟩ | ⟨hpf, hwy⟩
    · have hl1 : (lenF m).2 = 0 := ((whyF_zero f a m x k).1 hwy).2.1
      obtain ⟨rfl, rfl, hk16, hof⟩ := of_back f a m x k ha hwy
      have hO := fun W => of_any a (lenF m).1 k W ha (by omega)
      rw [hpf] at hP1
      rw [hwy] at hY
      rw [hof] at hO
      have hQ : ∃ (p q : Nat) (er : Int), prefF f' a' m' x' k' = ((p, q), er) ∧ (er = 140 ∨ (er = 0 ∧ p = a' ∧ ((a = a' ∧ m = m' ∧ q = (lenF m).1) ∨ (a = a' ∧ ((m : Int) == m') = false ∧ (((lenF m).1 : Int) == q) = false) ∨ ((a : Int) == a') = false))) := by
        rcases prefF_cases f' a' m' x' k' with ⟨h1, h2⟩ | ⟨h1, h2⟩
        · refine ⟨_, _, _, h1, .inr ⟨rfl, rfl, ?_⟩⟩
          have hl2 : (lenF m').2 = 0 := ((whyF_zero f' a' m' x' k').1 h2).2.1
          by_cases ea : a = a'
          · by_cases em : m = m'
            · exact .inl ⟨ea, em, by rw [em]⟩
            · refine .inr (.inl ⟨ea, ?_, ?_⟩)
              · simp; omega
              · have : (lenF m).1 ≠ (lenF m').1 := fun e => em (lenF_inj m m' hl1 hl2 e)
                simp; omega
          · exact .inr (.inr (by simp; omega))
        · exact ⟨_, _, _, h1, .inl rfl⟩
      obtain ⟨p, q, er, hq, hc⟩ := hQ
      rw [hq] at hP2
      have hE := eq_pfx a p ((lenF m).1) q
      generalize (lenF m).1 = n at *
      have hcv : IntKind.i64.wrap (k : Int) = k := IntWalk.i64_in _ ⟨by omega, by omega⟩
      have CP := Lib.hid hP1
      have CY := Lib.hid hY
      have CQ := Lib.hid hP2
      have CO := Lib.hid hO
      have HC := Lib.hid hc
      simp only at CP CY CQ CO
      clear hP1 hY hwy hpf hP2 hO hc hq hl1 hof
      have d0 := (HX3.out).cell 0
      have d1 := (HX3.out).cell 1
      have d2 := (HX3.out).cell 2
      have d3 := (HX3.out).cell 3
      have d4 := (HX3.out).cell 4
      have d5 := (HX3.out).cell 5
      simp only [List.getElem?_toArray, List.getElem?_cons_zero, List.getElem?_cons_succ] at d0 d1 d2 d3 d4 d5
      go_wp2_with fail
      refine (CP.out _).mono ?_
      rintro e w4 ⟨rfl, b4⟩
      have HX4 := Lib.hid ((HX3.out.below b4 HX3.out.lt).alloc (.cells #[.int .u32 a, .int .i64 n] 28))
      have HY4 := Lib.hid ((HY3.out.below b4 HY3.out.lt).alloc (.cells #[.int .u32 a, .int .i64 n] 28))
      have hb4 := balloc (bnext b3 b4) (.cells #[.int .u32 a, .int .i64 n] 28)
      have HP4 := Lib.hid (Blk.new w4 28 #[.int .u32 a, .int .i64 n])
      clear d0 d1 d2 d3 d4 d5
      clear HX3 HY3 b3
      go_wp2_with fail
      generalize hwz : w4.alloc (.cells #[.int .u32 a, .int .i64 n] 28) = wz at *
      clear hwz
      have hne : Nonempty (Sub wz) := ⟨⟨_, Below.refl _ _⟩⟩
      have d0 := fun v : Sub wz => ((HX4.out).below v.2 (HX4.out).lt).cell 0
      have d1 := fun v : Sub wz => ((HX4.out).below v.2 (HX4.out).lt).cell 1
      have d2 := fun v : Sub wz => ((HX4.out).below v.2 (HX4.out).lt).cell 2
      have d3 := fun v : Sub wz => ((HX4.out).below v.2 (HX4.out).lt).cell 3
      have d4 := fun v : Sub wz => ((HX4.out).below v.2 (HX4.out).lt).cell 4
      have d5 := fun v : Sub wz => ((HX4.out).below v.2 (HX4.out).lt).cell 5
      simp only [List.getElem?_toArray, List.getElem?_cons_zero, List.getElem?_cons_succ] at d0 d1 d2 d3 d4 d5
      refine region_sub (by kernel_rfl) (by kernel_rfl) ?_
      repeat (first | go_big_quiet_step ((first | (go_at_call 12; exact sub_same (num_any _ _)) | (go_at_call 10; exact sub_below (CY.out _)))) | quiet_step ((first | (go_at_call 12; exact sub_same (num_any _ _)) | (go_at_call 10; exact sub_below (CY.out _)))))
      refine wpQuiet_nil ?_
      rintro _ ⟨⟨w5, b5⟩, rfl⟩
      clear d0 d1 d2 d3 d4 d5
      have HP5 := Lib.hid (HP4.out.below b5 HP4.out.lt)
      have HX5 := Lib.hid (HX4.out.below b5 HX4.out.lt)
      have HY5 := Lib.hid (HY4.out.below b5 HY4.out.lt)
      replace b5 := bnext hb4 b5
      clear HP4 HX4 HY4 hb4 hne
      have d0 := (HP5.out).cell 0
      have d1 := (HP5.out).cell 1
      simp only [List.getElem?_toArray, List.getElem?_cons_zero, List.getElem?_cons_succ] at d0 d1
      have g0 := (HX5.out).cell 0
      have g1 := (HX5.out).cell 1
      have g2 := (HX5.out).cell 2
      have g3 := (HX5.out).cell 3
      have g4 := (HX5.out).cell 4
      have g5 := (HX5.out).cell 5
      simp only [List.getElem?_toArray, List.getElem?_cons_zero, List.getElem?_cons_succ] at g0 g1 g2 g3 g4 g5
      go_wp2_with (first | (go_at_call 12; refine (num_any _ _).mono ?_; rintro e w' ⟨rfl, rfl⟩))
      refine (CO.out _).mono ?_
      rintro e w6 ⟨rfl, b6⟩
      have HP6 := Lib.hid (HP5.out.below b6 HP5.out.lt)
      have HX6 := Lib.hid (HX5.out.below b6 HX5.out.lt)
      have HY6 := Lib.hid (HY5.out.below b6 HY5.out.lt)
      replace b6 := bnext b5 b6
      clear d0 d1 g0 g1 g2 g3 g4 g5
      clear HP5 HX5 HY5 b5
      have HP7 := Lib.hid (HP6.out.alloc (.cells #[.int .i64 2, .int .i64 t, .int .u32 a, .int .u32 m, .int .u32 0, .int .u32 k] 25))
      have HX7 := Lib.hid (HX6.out.alloc (.cells #[.int .i64 2, .int .i64 t, .int .u32 a, .int .u32 m, .int .u32 0, .int .u32 k] 25))
      have HY7 := Lib.hid (HY6.out.alloc (.cells #[.int .i64 2, .int .i64 t, .int .u32 a, .int .u32 m, .int .u32 0, .int .u32 k] 25))
      have HZ7 := Lib.hid (Blk.new w6 25 #[.int .i64 2, .int .i64 t, .int .u32 a, .int .u32 m, .int .u32 0, .int .u32 k])
      have b7 := balloc b6 (.cells #[.int .i64 2, .int .i64 t, .int .u32 a, .int .u32 m, .int .u32 0, .int .u32 k] 25)
      have g1 := (HX6.out.alloc (.cells #[.int .i64 2, .int .i64 0, .int .u32 a, .int .u32 m, .int .u32 0, .int .u32 k] 25)).cell 1
      simp only [List.getElem?_toArray, List.getElem?_cons_zero, List.getElem?_cons_succ] at g1
      have d0 := (HY7.out).cell 0
      have d1 := (HY7.out).cell 1
      have d2 := (HY7.out).cell 2
      have d3 := (HY7.out).cell 3
      have d4 := (HY7.out).cell 4
      have d5 := (HY7.out).cell 5
      simp only [List.getElem?_toArray, List.getElem?_cons_zero, List.getElem?_cons_succ] at d0 d1 d2 d3 d4 d5
      have hlt := HX6.out.lt
      go_wp2_with fail
      refine (CQ.out _).mono ?_
      rintro e w8 ⟨rfl, b8⟩
      clear d0 d1 d2 d3 d4 d5
      clear g1 HP6 HX6 HY6 hlt
      have HP8 := Lib.hid ((HP7.out.below b8 HP7.out.lt).alloc (.cells #[.int .u32 p, .int .i64 q] 28))
      have HX8 := Lib.hid ((HX7.out.below b8 HX7.out.lt).alloc (.cells #[.int .u32 p, .int .i64 q] 28))
      have HY8 := Lib.hid ((HY7.out.below b8 HY7.out.lt).alloc (.cells #[.int .u32 p, .int .i64 q] 28))
      have HZ8 := Lib.hid ((HZ7.out.below b8 HZ7.out.lt).alloc (.cells #[.int .u32 p, .int .i64 q] 28))
      have HQ8 := Lib.hid (Blk.new w8 28 #[.int .u32 p, .int .i64 q])
      have hb8 := balloc (bnext b7 b8) (.cells #[.int .u32 p, .int .i64 q] 28)
      clear HP7 HX7 HY7 HZ7 b7 b8 b6
      go_wp2_with fail
      generalize hwy : w8.alloc (.cells #[.int .u32 p, .int .i64 q] 28) = wy at *
      clear hwy
      have hne : Nonempty (Sub wy) := ⟨⟨_, Below.refl _ _⟩⟩
      have HWy := Lib.hid (show ∀ v : Sub wy, WidthsAt v.1 from fun v => (HW.out.below hb8).below v.2)
      have hEx := eq_ent 2 t a m 0 k 2 t a m 0 k
      simp only [beq_self_eq_true, Bool.and_self] at hEx
      have d0 := fun v : Sub wy => ((HX8.out).below v.2 (HX8.out).lt).cell 0
      have d1 := fun v : Sub wy => ((HX8.out).below v.2 (HX8.out).lt).cell 1
      have d2 := fun v : Sub wy => ((HX8.out).below v.2 (HX8.out).lt).cell 2
      have d3 := fun v : Sub wy => ((HX8.out).below v.2 (HX8.out).lt).cell 3
      have d4 := fun v : Sub wy => ((HX8.out).below v.2 (HX8.out).lt).cell 4
      have d5 := fun v : Sub wy => ((HX8.out).below v.2 (HX8.out).lt).cell 5
      simp only [List.getElem?_toArray, List.getElem?_cons_zero, List.getElem?_cons_succ] at d0 d1 d2 d3 d4 d5
      have g0 := fun v : Sub wy => ((HY8.out).below v.2 (HY8.out).lt).cell 0
      have g1 := fun v : Sub wy => ((HY8.out).below v.2 (HY8.out).lt).cell 1
      have g2 := fun v : Sub wy => ((HY8.out).below v.2 (HY8.out).lt).cell 2
      have g3 := fun v : Sub wy => ((HY8.out).below v.2 (HY8.out).lt).cell 3
      have g4 := fun v : Sub wy => ((HY8.out).below v.2 (HY8.out).lt).cell 4
      have g5 := fun v : Sub wy => ((HY8.out).below v.2 (HY8.out).lt).cell 5
      simp only [List.getElem?_toArray, List.getElem?_cons_zero, List.getElem?_cons_succ] at g0 g1 g2 g3 g4 g5
      have i0 := fun v : Sub wy => ((HZ8.out).below v.2 (HZ8.out).lt).cell 0
      have i1 := fun v : Sub wy => ((HZ8.out).below v.2 (HZ8.out).lt).cell 1
      have i2 := fun v : Sub wy => ((HZ8.out).below v.2 (HZ8.out).lt).cell 2
      have i3 := fun v : Sub wy => ((HZ8.out).below v.2 (HZ8.out).lt).cell 3
      have i4 := fun v : Sub wy => ((HZ8.out).below v.2 (HZ8.out).lt).cell 4
      have i5 := fun v : Sub wy => ((HZ8.out).below v.2 (HZ8.out).lt).cell 5
      simp only [List.getElem?_toArray, List.getElem?_cons_zero, List.getElem?_cons_succ] at i0 i1 i2 i3 i4 i5
      have j0 := fun v : Sub wy => ((HP8.out).below v.2 (HP8.out).lt).cell 0
      have j1 := fun v : Sub wy => ((HP8.out).below v.2 (HP8.out).lt).cell 1
      simp only [List.getElem?_toArray, List.getElem?_cons_zero, List.getElem?_cons_succ] at j0 j1
      have o0 := fun v : Sub wy => ((HQ8.out).below v.2 (HQ8.out).lt).cell 0
      have o1 := fun v : Sub wy => ((HQ8.out).below v.2 (HQ8.out).lt).cell 1
      simp only [List.getElem?_toArray, List.getElem?_cons_zero, List.getElem?_cons_succ] at o0 o1
      rcases HC.out with rfl | ⟨rfl, rfl, ⟨rfl, rfl, rfl⟩ | ⟨rfl, h1, h2⟩ | h1⟩
      case' inr.inr.inl => simp only [beq_self_eq_true, h2, Bool.and_false] at hE
      case' inr.inr.inr => simp only [h1, Bool.false_and] at hE
      case' inr.inl => simp only [beq_self_eq_true, Bool.and_self] at hE
      all_goals
        refine region_sub (by kernel_rfl) (by kernel_rfl) ?_
        repeat (first | go_big_quiet_step ((first | (go_at_call 12; exact sub_same (num_any _ _)) | (go_at_call 14; exact sub_below (works_any _ (HWy.out _))))) | quiet_step ((first | (go_at_call 12; exact sub_same (num_any _ _)) | (go_at_call 14; exact sub_below (works_any _ (HWy.out _))))))
        refine wpQuiet_nil ?_
        rintro _ ⟨u, rfl⟩
        go_wp2_with fail
        go_ret
        exact ⟨rfl, bnext hb8 u.2⟩
    · rw [hpf] at hP1
      have hq : ((whyF f a m x k : Int) == 0) = false := by simpa using hwy
      generalize whyF f a m x k = q at *
      have CP := Lib.hid hP1
      have CY := Lib.hid hY
      simp only at CP CY
      have hE0 := eq_pfx 0 0 0 0
      simp only [beq_self_eq_true, Bool.and_self] at hE0
      clear hP1 hY hwy hpf hP2
      have d0 := (HX3.out).cell 0
      have d1 := (HX3.out).cell 1
      have d2 := (HX3.out).cell 2
      have d3 := (HX3.out).cell 3
      have d4 := (HX3.out).cell 4
      have d5 := (HX3.out).cell 5
      simp only [List.getElem?_toArray, List.getElem?_cons_zero, List.getElem?_cons_succ] at d0 d1 d2 d3 d4 d5
      go_wp2_with fail
      refine (CP.out _).mono ?_
      rintro e w4 ⟨rfl, b4⟩
      have HX4 := Lib.hid ((HX3.out.below b4 HX3.out.lt).alloc (.cells #[.int .u32 0, .int .i64 0] 28))
      have hb4 := balloc (bnext b3 b4) (.cells #[.int .u32 0, .int .i64 0] 28)
      have HP4 := Lib.hid (Blk.new w4 28 #[.int .u32 0, .int .i64 0])
      clear d0 d1 d2 d3 d4 d5
      clear HX3 HY3 b3
      go_wp2_with fail
      generalize hwz : w4.alloc (.cells #[.int .u32 0, .int .i64 0] 28) = wz at *
      clear hwz
      have hne : Nonempty (Sub wz) := ⟨⟨_, Below.refl _ _⟩⟩
      have d0 := fun v : Sub wz => ((HX4.out).below v.2 (HX4.out).lt).cell 0
      have d1 := fun v : Sub wz => ((HX4.out).below v.2 (HX4.out).lt).cell 1
      have d2 := fun v : Sub wz => ((HX4.out).below v.2 (HX4.out).lt).cell 2
      have d3 := fun v : Sub wz => ((HX4.out).below v.2 (HX4.out).lt).cell 3
      have d4 := fun v : Sub wz => ((HX4.out).below v.2 (HX4.out).lt).cell 4
      have d5 := fun v : Sub wz => ((HX4.out).below v.2 (HX4.out).lt).cell 5
      simp only [List.getElem?_toArray, List.getElem?_cons_zero, List.getElem?_cons_succ] at d0 d1 d2 d3 d4 d5
      refine region_sub (by kernel_rfl) (by kernel_rfl) ?_
      repeat (first | go_big_quiet_step ((first | (go_at_call 12; exact sub_same (num_any _ _)) | (go_at_call 10; exact sub_below (CY.out _)))) | quiet_step ((first | (go_at_call 12; exact sub_same (num_any _ _)) | (go_at_call 10; exact sub_below (CY.out _)))))
      refine wpQuiet_nil ?_
      rintro _ ⟨u, rfl⟩
      clear d0 d1 d2 d3 d4 d5
      have HP5 := Lib.hid (HP4.out.below u.2 HP4.out.lt)
      have d0 := (HP5.out).cell 0
      have d1 := (HP5.out).cell 1
      simp only [List.getElem?_toArray, List.getElem?_cons_zero, List.getElem?_cons_succ] at d0 d1
      go_wp2_with (first | (go_at_call 12; refine (num_any _ _).mono ?_; rintro e w' ⟨rfl, rfl⟩))
      refine (works_any _ (HW.out.below (bnext hb4 u.2))).mono ?_
      rintro e w5 ⟨rfl, b5⟩
      go_wp2_with fail
      go_ret
      exact ⟨rfl, bnext (bnext hb4 u.2) b5⟩
end Go.Proofs.YtacdanpgdgdjfaaDoor
