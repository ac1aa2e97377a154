/- guard: is: a tally stands as the document's. -/
import Derived.Test.YtlanfceilajifaaGreatDoorGuH
import Derived.Laws.OwnMore
namespace Go.Proofs.YtlanfceilajifaaGreatDoor
set_option linter.unusedVariables false
set_option linter.unusedSimpArgs false
open Go.RowKit
set_option maxRecDepth 100000
attribute [local go_sem ↓] loadVar_T storeVar_T
attribute [local go_sem] run_ld16 run_st16 tF_ok tF_size
def isL : List Int := [4, 150, 151, 152, 153, 154, 190, 191, 192, 0, 1, 2, 3, 5, 170, 200]
theorem int16_info : (Tryz.prog.info? 3).map (fun i => (i.zero, i.size, i.bytes)) = some (some (.int .i64 0), 1, 8) := by kernel_rfl

set_option maxHeartbeats 4000000 in
theorem is16_any {w : World} {g : Nat} {L : List Int} (hT : Ta w g L) : Calls Tryz.prog 24 #[.pointer (some ⟨g, 0, none⟩), .agg (tF (ftal L))] w fun e w' => e = .returned (.bool true) ∧ Below w.heap.size w w' := by
  obtain ⟨i0, hi0, hz0, hz1, hz2⟩ := info_parts int16_info
  have b1 : Below w.heap.size w (w.alloc (.cells (tF (ftal L)) 68)) := balloc (Below.refl _ _) _
  have x0 := Blk.new w 68 (tF (ftal L))
  obtain ⟨w1, hw1⟩ : ∃ w1, w1 = w.alloc (.cells (tF (ftal L)) 68) := ⟨_, rfl⟩
  rw [← hw1] at b1 x0
  have HW1 := Lib.hid hw1
  have X := Lib.hid (And.intro x0 (And.intro (hT.below b1) b1))
  have HER := Lib.hid (fun W => errors_any W)
  clear hw1 x0 b1 hT
  go_enter Tryz.func24, Tryz.ntmps24
  go_wp2_with fail
  rw [← HW1.out]
  refine (HER.out w1).mono ?_
  rintro e w2 ⟨rfl, rfl⟩
  have ho1 := World.ownsRow_lit (base := w1.heap.size) (e := 3) (size := 1) w1 #[.int .i64 4, .int .i64 150, .int .i64 151, .int .i64 152, .int .i64 153, .int .i64 154, .int .i64 190, .int .i64 191, .int .i64 192] 9 (Nat.le_refl _) (by simp [maxLen]) rfl
  obtain ⟨w2, hw2⟩ : ∃ w2, w2 = w1.alloc (.cells #[.int .i64 4, .int .i64 150, .int .i64 151, .int .i64 152, .int .i64 153, .int .i64 154, .int .i64 190, .int .i64 191, .int .i64 192] 3) := ⟨_, rfl⟩
  have b12 : Below w1.heap.size w1 w2 := by rw [hw2]; exact balloc (Below.refl _ _) _
  rw [← hw2] at ho1 ⊢
  have HO := Lib.hid (ho1.alloc (.cells #[.int .i64 0, .int .i64 1, .int .i64 2, .int .i64 3, .int .i64 5, .int .i64 170, .int .i64 200] 3))
  have h12 := b12.size
  have B2 := Lib.hid (balloc b12 (.cells #[.int .i64 0, .int .i64 1, .int .i64 2, .int .i64 3, .int .i64 5, .int .i64 170, .int .i64 200] 3))
  clear hw2 ho1 b12
  go_wp2_with (at_builtin; refine wpList_append_rd rfl (.tmp 8) (.tmp 9) _ rfl w1.heap.size 3 i0 _ 1 8 Tryz.underlying133 hi0 hz0 hz1 hz2 rfl (by omega) (.slice (some ⟨w1.heap.size, 0, none⟩) 9 9) 9 _ rfl HO.out 7 7 [.int .i64 0, .int .i64 1, .int .i64 2, .int .i64 3, .int .i64 5, .int .i64 170, .int .i64 200] rfl rfl (Rd.new _ _ _) (by simp [Value.oneCell']) (by simp [maxLen]) (by omega) (by simp; omega) ?_; intro v5 w5 ho5 hg5 ha5)
  obtain ⟨A5, c5, rfl, -, -, hr5, -⟩ := own_row ho5
  have b15 : Below w1.heap.size w1 w5 := bgrown B2.out hg5 (Nat.le_refl _)
  have hT5 := X.out.2.1.below b15
  have hx5 := X.out.1.below b15 X.out.1.lt
  have HR := Lib.hid (show Rd w5 w5.heap.size A5 (isL.map (Value.int .i64)) from hr5)
  have HX := Lib.hid (And.intro hx5 (And.intro hT5 (bnext X.out.2.2 b15)))
  clear ho5 hg5 ha5 hr5 b15 hT5 hx5 B2 HO h12 HW1
  go_wp2_with fail
  go_loopw [6] (fun i wr => ∃ k : Nat, k ≤ 16 ∧ i = .int .i64 k ∧ Below w5.heap.size w5 wr) (fun i _ => 16 - (intOf i).toNat)
  case atStart => exact ⟨0, Nat.zero_le _, rfl, Below.refl _ _⟩
  case round =>
    obtain ⟨k, hk, rfl, hb⟩ := hrel
    by_cases hlt : k < 16
    · obtain ⟨b, off, rfl, hbl, hc⟩ := HR.out (by decide)
      obtain ⟨q, hq⟩ : ∃ q, isL[k]? = some q := ⟨_, List.getElem?_eq_getElem (show k < isL.length from hlt)⟩
      have hck := (hb.cell (p := ⟨b, off + k, none⟩) hbl).trans (hc k (.int .i64 q) (by rw [List.getElem?_map, hq]; rfl))
      have hX := HX.out.1.below hb HX.out.1.lt
      have hT := HX.out.2.1.below hb
      have d0 : decide ((k : Int) < 16) = true := by simp; omega
      have hi0 : (0 : Int) ≤ (k : Int) := by omega
      have hi1 : (k : Int) < 16 := by omega
      have hwk : IntKind.i64.wrap ((k : Int) + 1) = (k : Int) + 1 := IntWalk.i64_in _ ⟨by omega, by omega⟩
      have HRF := Lib.hid (fun v : Sub wr => refused_any (w := v.1) q (hT.below (Sub.le v)))
      have HRG := Lib.hid (fun v : Sub wr => refrefused_any L q v.1)
      generalize manyF L (ixE q) = m at *
      have dm : (m != m) = false := by simp
      have s1 : ∀ v : Sub wr, rowOk v.1 w.heap.size 0 16 = true := fun v => ((hX.below (Sub.le v) hX.lt).row (tF_size _)).2.1
      have s2 : ∀ v : Sub wr, rowOf v.1 w.heap.size 0 16 = tF (ftal L) := fun v => ((hX.below (Sub.le v) hX.lt).row (tF_size _)).2.2
      have s3 : ∀ v : Sub wr, v.1.cell? ⟨b, off + k, none⟩ = some (.int .i64 q) := fun v => ((Sub.le v).cell (p := ⟨b, off + k, none⟩) (cell_lt hck)).trans hck
      have hne : Nonempty (Sub wr) := ⟨⟨_, Below.refl _ _⟩⟩
      have HB := Lib.hid hb
      clear hck hX hT hb hq hc
      go_wp2_with fail
      refine region_sub (by kernel_rfl) (by kernel_rfl) ?_
      repeat (first | go_big_quiet_step (((first | (go_at_call 27; exact sub_below (HRF.out _)) | (go_at_call 63; exact sub_below (HRG.out _))))) | quiet_step (((first | (go_at_call 27; exact sub_below (HRF.out _)) | (go_at_call 63; exact sub_below (HRG.out _))))))
      refine wpQuiet_nil ?_
      rintro _ ⟨v, rfl⟩
      go_wp2_with fail
      go_roundw
      case rel => exact ⟨k + 1, by omega, by go_num, HB.out.trans (v.2.mono HB.out.size)⟩
      case measure => simp [intOf]; omega
    · obtain rfl : k = 16 := by omega
      go_wp2_with fail
      have HB := Lib.hid hb
      clear hb
      generalize wr = wy at *
      go_loopw [7] (fun i wx => ∃ r : Int, -1 ≤ r ∧ r ≤ 8 ∧ i = .int .i64 r ∧ Below wy.heap.size wy wx) (fun i _ => (8 - intOf i).toNat)
      case atStart => exact ⟨-1, by omega, by omega, rfl, Below.refl _ _⟩
      case round =>
        obtain ⟨r, hr0, hr1, rfl, hb⟩ := hrel
        have hX := (HX.out.1.below HB.out HX.out.1.lt).below hb (HX.out.1.below HB.out HX.out.1.lt).lt
        have hT := (HX.out.2.1.below HB.out).below hb
        by_cases hlt : r ≤ 7
        · have d0 : decide (r ≤ 7) = true := by simpa using hlt
          have hwk : IntKind.i64.wrap (r + 1) = r + 1 := IntWalk.i64_in _ ⟨by omega, by omega⟩
          have HRF := Lib.hid (fun v : Sub wr => leftout_any (w := v.1) r (hT.below (Sub.le v)))
          have HRG := Lib.hid (fun v : Sub wr => refleftO_any L r v.1)
          generalize manyF L (ixR r) = m at *
          have dm : (m != m) = false := by simp
          have s1 : ∀ v : Sub wr, rowOk v.1 w.heap.size 0 16 = true := fun v => ((hX.below (Sub.le v) hX.lt).row (tF_size _)).2.1
          have s2 : ∀ v : Sub wr, rowOf v.1 w.heap.size 0 16 = tF (ftal L) := fun v => ((hX.below (Sub.le v) hX.lt).row (tF_size _)).2.2
          have hne : Nonempty (Sub wr) := ⟨⟨_, Below.refl _ _⟩⟩
          have HB2 := Lib.hid hb
          clear hX hT hb
          go_wp2_with fail
          refine region_sub (by kernel_rfl) (by kernel_rfl) ?_
          repeat (first | go_big_quiet_step (((first | (go_at_call 28; exact sub_below (HRF.out _)) | (go_at_call 64; exact sub_below (HRG.out _))))) | quiet_step (((first | (go_at_call 28; exact sub_below (HRF.out _)) | (go_at_call 64; exact sub_below (HRG.out _))))))
          refine wpQuiet_nil ?_
          rintro _ ⟨v, rfl⟩
          go_wp2_with fail
          go_roundw
          case rel => exact ⟨r + 1, by omega, by omega, rfl, HB2.out.trans (v.2.mono HB2.out.size)⟩
          case measure => simp [intOf]; omega
        · have d0 : decide (r ≤ 7) = false := by simpa using hlt
          have HAL := Lib.hid (fun W (h : Ta W g L) => gall_any h)
          have HRW := Lib.hid (fun lb W (h : IsAll W (· < W.heap.size) L lb) => rows16_any L hT.len hT.bd lb 99 W h)
          have HK := Lib.hid (fun W (hW : Below wr.heap.size wr W) => (((hX.below hW hX.lt).row (tF_size _)).2))
          have hB0 : Below wr.heap.size wr wr.drew := below_drewN (Below.refl _ _) 1
          have HT := Lib.hid hT
          have HBB := Lib.hid (bnext HX.out.2.2 (bnext HB.out hb))
          clear hX hT hb
          go_upto_region 12 with fail
          go_region_held3 (fun W => rowOk W w.heap.size 0 16 = true ∧ rowOf W w.heap.size 0 16 = tF (ftal L)) (first | exact HK.out _ hB0 | exact HK.out _ F6.out | exact HK.out _ F7.out)
            (first
            | (go_at_call 30; (with_reducible refine (HAL.out wr.drew HT.out.drew).mono ?_); rintro e' w6 ⟨lb, rfl, hA6, b6⟩; have F6 := Lib.hid (bnext hB0 b6); have HA6 := Lib.hid (hA6.fr (q := (· < w6.heap.size)) (Fr.refl (p := fun _ => True)) (fun _ _ _ => trivial) (fun b _ h => h)); clear hA6 b6)
            | (go_at_call 29; (with_reducible refine (HRW.out lb w6 HA6.out).mono ?_); rintro e' w7 ⟨rfl, b7⟩; have F7 := Lib.hid (bnext F6.out b7); clear b7))
          go_wp2_with fail
          go_ret
          exact ⟨rfl, bnext HBB.out F7.out⟩
end Go.Proofs.YtlanfceilajifaaGreatDoor
