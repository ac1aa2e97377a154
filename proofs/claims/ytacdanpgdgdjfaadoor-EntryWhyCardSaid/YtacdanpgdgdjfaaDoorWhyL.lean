/- EntryWhy: the walk. -/
import Derived.Test.YtacdanpgdgdjfaaDoorWorks4
import Derived.Test.YtacdanpgdgdjfaaDoorEq
namespace Go.Proofs.YtacdanpgdgdjfaaDoor
open Go.RowKit
set_option maxRecDepth 100000

set_option maxHeartbeats 4000000 in
theorem why_walk (f t : Int) (a m x k : Nat) (r : Int) (w : World) (hw : WidthsAt w) (ha : a < 4294967296) (hm : m < 4294967296) (hx : x < 4294967296) (hk : k < 4294967296) :
    Calls Tryd.prog 3 #[.agg #[.int .i64 f, .int .i64 t, .int .u32 a, .int .u32 m, .int .u32 x, .int .u32 k], .int .i64 r] w fun e w' => e = .returned (.bool true) ∧ Below w.heap.size w w' := by
  have HW := Lib.hid hw
  have hP := fun W => prefix_any f t a m x k W ha hm hx hk
  have hQ := fun W => refPrefix_any f t a m x k W ha hm hx hk
  have hY := fun W => why_any f t a m x k W ha hm hx hk
  have hZ := fun W => refWhy_any f t a m x k W ha hm hx hk
  have hN := fun W => name_any r W
  generalize prefF f a m x k = pf at *
  obtain ⟨⟨p1, p2⟩, er⟩ := pf
  generalize whyF f a m x k = q at *
  have hE1 := eq_pfx p1 p1 p2 p2
  simp only [beq_self_eq_true, Bool.and_self] at hE1
  have hd1 : ((q : Int) == q) = true := by simp
  have hd2 : (er == er) = true := by simp
  have hE0 := Blk.new w 25 #[.int .i64 f, .int .i64 t, .int .u32 a, .int .u32 m, .int .u32 x, .int .u32 k]
  have CP := Lib.hid hP
  have CQ := Lib.hid hQ
  have CY := Lib.hid hY
  have CZ := Lib.hid hZ
  have HE := Lib.hid hE0
  clear hP hQ hY hZ hw hE0
  simp only at CP CQ
  rcases (by omega : r < 0 ∨ 6 < r ∨ r = 0 ∨ r = 1 ∨ r = 2 ∨ r = 3 ∨ r = 4 ∨ r = 5 ∨ r = 6) with hr | hr | rfl | rfl | rfl | rfl | rfl | rfl | rfl
  case' inl =>
    have hn : nameF r = ⟨#[]⟩ := by unfold nameF; repeat rw [if_neg (by omega)]
    rw [hn] at hN
    clear hn
  case' inr.inl =>
    have hn : nameF r = ⟨#[]⟩ := by unfold nameF; repeat rw [if_neg (by omega)]
    rw [hn] at hN
    clear hn
  all_goals
    have CN := Lib.hid hN
    clear hN
    try simp only [nameF] at CN
    go_enter Tryd.func3, Tryd.ntmps3
    go_wp2_with fail
    refine (CP.out _).mono ?_
    rintro e w1 ⟨rfl, b1⟩
    have hE1b := (HE.out.below b1 (by simp)).alloc (.cells #[.int .u32 p1, .int .i64 p2] 28)
    have c0 := hE1b.cell 0
    have c1 := hE1b.cell 1
    have c2 := hE1b.cell 2
    have c3 := hE1b.cell 3
    have c4 := hE1b.cell 4
    have c5 := hE1b.cell 5
    simp only [List.getElem?_toArray, List.getElem?_cons_zero, List.getElem?_cons_succ] at c0 c1 c2 c3 c4 c5
    have hlt1 := (HE.out.below b1 (by simp)).lt
    have HE1 := Lib.hid hE1b
    have hP1 := Blk.new w1 28 #[.int .u32 p1, .int .i64 p2]
    have HP1 := Lib.hid hP1
    replace b1 := bnext (balloc (Below.refl _ w) (.cells #[.int .i64 f, .int .i64 t, .int .u32 a, .int .u32 m, .int .u32 x, .int .u32 k] 25)) b1
    clear hE1b hP1
    go_wp2_with fail
    refine (CQ.out _).mono ?_
    rintro e w2 ⟨rfl, b2⟩
    clear c0 c1 c2 c3 c4 c5
    have HE2 := Lib.hid (HE1.out.below b2 HE1.out.lt)
    have HP2 := Lib.hid (HP1.out.below b2 HP1.out.lt)
    replace b2 := bnext (balloc b1 _) b2
    clear HE1 HP1 b1
    go_wp2_with fail
    have hbz : Below w.heap.size w (w2.alloc (.cells #[.int .u32 p1, .int .i64 p2] 28)) := balloc b2 _
    have g1 : Blk (w2.alloc (.cells #[.int .u32 p1, .int .i64 p2] 28)) w2.heap.size 28 #[.int .u32 p1, .int .i64 p2] := Blk.new _ _ _
    have g2 : Blk (w2.alloc (.cells #[.int .u32 p1, .int .i64 p2] 28)) w1.heap.size 28 #[.int .u32 p1, .int .i64 p2] := HP2.out.alloc _
    have g3 : Blk (w2.alloc (.cells #[.int .u32 p1, .int .i64 p2] 28)) w.heap.size 25 #[.int .i64 f, .int .i64 t, .int .u32 a, .int .u32 m, .int .u32 x, .int .u32 k] := HE2.out.alloc _
    generalize w2.alloc (.cells #[.int .u32 p1, .int .i64 p2] 28) = wz at *
    first
      | (obtain ⟨wy, hwy, i0, i1, i2, i3⟩ : ∃ wy, wy = wz.alloc (.cells #[.string ⟨#[102, 105, 110, 101]⟩, .string ⟨#[102, 97, 109, 105, 108, 121]⟩, .string ⟨#[109, 97, 115, 107]⟩, .string ⟨#[98, 105, 116, 115]⟩, .string ⟨#[107, 105, 110, 100]⟩, .string ⟨#[110, 101, 120, 116]⟩, .string ⟨#[109, 101, 116, 114, 105, 99]⟩] 9) ∧ Below w.heap.size w wy ∧ Blk wy w2.heap.size 28 #[.int .u32 p1, .int .i64 p2] ∧ Blk wy w1.heap.size 28 #[.int .u32 p1, .int .i64 p2] ∧ Blk wy w.heap.size 25 #[.int .i64 f, .int .i64 t, .int .u32 a, .int .u32 m, .int .u32 x, .int .u32 k] := ⟨_, rfl, balloc hbz _, g1.alloc _, g2.alloc _, g3.alloc _⟩
         rw [← hwy]
         clear hwy)
      | (obtain ⟨wy, hwy, i0, i1, i2, i3⟩ : ∃ wy, wy = wz ∧ Below w.heap.size w wy ∧ Blk wy w2.heap.size 28 #[.int .u32 p1, .int .i64 p2] ∧ Blk wy w1.heap.size 28 #[.int .u32 p1, .int .i64 p2] ∧ Blk wy w.heap.size 25 #[.int .i64 f, .int .i64 t, .int .u32 a, .int .u32 m, .int .u32 x, .int .u32 k] := ⟨_, rfl, hbz, g1, g2, g3⟩
         rw [← hwy]
         clear hwy)
    have I1 := Lib.hid i1
    have I2 := Lib.hid i2
    have I3 := Lib.hid i3
    clear g1 g2 g3 hbz b2 HE2 HP2 i1 i2 i3 HE CP CQ
    have hne : Nonempty (Sub wy) := ⟨⟨_, Below.refl _ _⟩⟩
    have j0 : ∀ v : Sub wy, v.1.cell? ⟨w2.heap.size, 0, none⟩ = some (.int .u32 p1) := fun v => (I1.out.below v.2 I1.out.lt).cell 0
    have j1 : ∀ v : Sub wy, v.1.cell? ⟨w2.heap.size, 1, none⟩ = some (.int .i64 p2) := fun v => (I1.out.below v.2 I1.out.lt).cell 1
    have j2 : ∀ v : Sub wy, v.1.cell? ⟨w1.heap.size, 0, none⟩ = some (.int .u32 p1) := fun v => (I2.out.below v.2 I2.out.lt).cell 0
    have j3 : ∀ v : Sub wy, v.1.cell? ⟨w1.heap.size, 1, none⟩ = some (.int .i64 p2) := fun v => (I2.out.below v.2 I2.out.lt).cell 1
    have k0 : ∀ v : Sub wy, v.1.cell? ⟨w.heap.size, 0, none⟩ = some (.int .i64 f) := fun v => (I3.out.below v.2 I3.out.lt).cell 0
    have k1 : ∀ v : Sub wy, v.1.cell? ⟨w.heap.size, 1, none⟩ = some (.int .i64 t) := fun v => (I3.out.below v.2 I3.out.lt).cell 1
    have k2 : ∀ v : Sub wy, v.1.cell? ⟨w.heap.size, 2, none⟩ = some (.int .u32 a) := fun v => (I3.out.below v.2 I3.out.lt).cell 2
    have k3 : ∀ v : Sub wy, v.1.cell? ⟨w.heap.size, 3, none⟩ = some (.int .u32 m) := fun v => (I3.out.below v.2 I3.out.lt).cell 3
    have k4 : ∀ v : Sub wy, v.1.cell? ⟨w.heap.size, 4, none⟩ = some (.int .u32 x) := fun v => (I3.out.below v.2 I3.out.lt).cell 4
    have k5 : ∀ v : Sub wy, v.1.cell? ⟨w.heap.size, 5, none⟩ = some (.int .u32 k) := fun v => (I3.out.below v.2 I3.out.lt).cell 5
    have HWy := Lib.hid (show ∀ v : Sub wy, WidthsAt v.1 from fun v => (HW.out.below i0).below v.2)
    refine region_sub (by kernel_rfl) (by kernel_rfl) ?_
    repeat (first | go_big_quiet_step ((first | (go_at_call 12; exact sub_same (num_any _ _)) | (go_at_call 10; exact sub_below (CY.out _)) | (go_at_call 11; exact sub_below (CZ.out _)) | (go_at_call 13; exact sub_below (CN.out _)) | (go_at_call 14; exact sub_below (works_any _ (HWy.out _))))) | quiet_step ((first | (go_at_call 12; exact sub_same (num_any _ _)) | (go_at_call 10; exact sub_below (CY.out _)) | (go_at_call 11; exact sub_below (CZ.out _)) | (go_at_call 13; exact sub_below (CN.out _)) | (go_at_call 14; exact sub_below (works_any _ (HWy.out _))))))
    refine wpQuiet_nil ?_
    rintro _ ⟨u, rfl⟩
    go_wp2_with fail
    go_ret
    exact ⟨rfl, bnext i0 u.2⟩
end Go.Proofs.YtacdanpgdgdjfaaDoor
