/- EntryOf: the walk. -/
import Derived.Test.YtacdanpgdgdjfaaDoorWorks4
import Derived.Test.YtacdanpgdgdjfaaDoorEq
namespace Go.Proofs.YtacdanpgdgdjfaaDoor
set_option linter.unusedVariables false
set_option linter.unusedSimpArgs false
open Go.RowKit
set_option maxRecDepth 100000

theorem of_good (a : Nat) (n me : Int) (ha : a < 4294967296) (h : okOf a n me = true) :
    ∃ n' me' : Nat, n = n' ∧ me = me' ∧ n' ≤ 32 ∧ me' ≤ 16 ∧ whyF 2 a (maskF n') 0 me' = 0 ∧ prefF 2 a (maskF n') 0 me' = ((a, n'), 0) := by
  simp only [okOf, okP, Bool.and_eq_true, decide_eq_true_eq, Bool.not_eq_true'] at h
  obtain ⟨⟨⟨h0, h1, h2⟩, h3, h4⟩, h5⟩ := h
  refine ⟨n.toNat, me.toNat, by omega, by omega, by omega, by omega, ?_⟩
  have hw := whyF_of a n.toNat me.toNat ha (by omega) h2 (by omega) (by omega)
  rw [h5] at hw
  simp only [Bool.false_eq_true, if_false] at hw
  refine ⟨hw, ?_⟩
  unfold prefF
  rw [if_pos hw, lenF_mask _ (by omega)]

set_option maxHeartbeats 4000000 in
theorem of_walk (a : Nat) (n me : Int) (w : World) (hw : WidthsAt w) (ha : a < 4294967296) (hme : me ≤ 9223372036854775807) :
    Calls Tryd.prog 4 #[.agg #[.int .u32 a, .int .i64 n], .int .i64 me] w fun e w' => e = .returned (.bool true) ∧ Below w.heap.size w w' := by
  have HW := Lib.hid hw
  have hO := fun W => of_any a n me W ha hme
  have hR := fun W => refOf_any a n me W ha hme
  have hP0 := Blk.new w 28 #[.int .u32 a, .int .i64 n]
  have hX : ∃ (fx : Int) (ax mx kx : Nat) (er : Int), ofV a n me = .tuple #[.agg #[.int .i64 fx, .int .i64 0, .int .u32 ax, .int .u32 mx, .int .u32 0, .int .u32 kx], .int .i64 er] ∧
      (er = 2 ∨ (er = 0 ∧ (∀ W, Calls Tryd.prog 8 #[.agg #[.int .i64 fx, .int .i64 0, .int .u32 ax, .int .u32 mx, .int .u32 0, .int .u32 kx]] W fun e w' => e = .returned (.tuple #[.agg #[.int .u32 a, .int .i64 n], .int .i64 0]) ∧ Below W.heap.size W w') ∧
        (∀ W, Calls Tryd.prog 10 #[.agg #[.int .i64 fx, .int .i64 0, .int .u32 ax, .int .u32 mx, .int .u32 0, .int .u32 kx]] W fun e w' => e = .returned (.int .i64 0) ∧ Below W.heap.size W w'))) := by
    unfold ofV
    cases hk : okOf a n me
    · exact ⟨0, 0, 0, 0, 2, by simp, .inl rfl⟩
    · obtain ⟨n', me', rfl, rfl, h1, h2, h3, h4⟩ := of_good a n me ha hk
      refine ⟨2, a, maskF n', me', 0, by simp, .inr ⟨rfl, fun W => ?_, fun W => ?_⟩⟩
      · have := prefix_any 2 0 a (maskF n') 0 me' W ha (maskF_lt n') (by omega) (by omega)
        rw [h4] at this
        exact this
      · have := why_any 2 0 a (maskF n') 0 me' W ha (maskF_lt n') (by omega) (by omega)
        rw [h3] at this
        exact this
  obtain ⟨fx, ax, mx, kx, er, hv, hc⟩ := hX
  rw [hv] at hO hR
  clear hv
  have hN1 := ne_ent fx 0 ax mx 0 kx fx 0 ax mx 0 kx
  have hN2 := ne_ent 0 0 0 0 0 16 0 0 0 0 0 16
  have hE1 := eq_pfx a a n n
  simp only [beq_self_eq_true, Bool.and_self, Bool.not_true] at hN1 hN2 hE1
  have hd1 : (er != er) = false := by simp
  have CO := Lib.hid hO
  have CR := Lib.hid hR
  have HP := Lib.hid hP0
  clear hO hR hw hP0
  rcases hc with rfl | ⟨rfl, hCP, hCY⟩
  case' inr =>
    have CP := Lib.hid hCP
    have CY := Lib.hid hCY
    clear hCP hCY
  all_goals
    go_enter Tryd.func4, Tryd.ntmps4
    go_wp2_with fail
    refine (CO.out _).mono ?_
    rintro e w1 ⟨rfl, b1⟩
    have hP1 := (HP.out.below b1 (by simp)).alloc (.cells #[.int .i64 fx, .int .i64 0, .int .u32 ax, .int .u32 mx, .int .u32 0, .int .u32 kx] 25)
    have c0 := hP1.cell 0
    have c1 := hP1.cell 1
    simp only [List.getElem?_toArray, List.getElem?_cons_zero, List.getElem?_cons_succ] at c0 c1
    have hlt1 := (HP.out.below b1 (by simp)).lt
    have HP1 := Lib.hid hP1
    have HX1 := Lib.hid (Blk.new w1 25 #[.int .i64 fx, .int .i64 0, .int .u32 ax, .int .u32 mx, .int .u32 0, .int .u32 kx])
    replace b1 := bnext (balloc (Below.refl _ w) (.cells #[.int .u32 a, .int .i64 n] 28)) b1
    clear hP1
    go_wp2_with fail
    refine (CR.out _).mono ?_
    rintro e w2 ⟨rfl, b2⟩
    clear c0 c1
    have HP2 := Lib.hid (HP1.out.below b2 HP1.out.lt)
    have HX2 := Lib.hid (HX1.out.below b2 HX1.out.lt)
    replace b2 := bnext (balloc b1 _) b2
    clear HP1 HX1 b1
    have hX3 := HX2.out.alloc (.cells #[.int .i64 fx, .int .i64 0, .int .u32 ax, .int .u32 mx, .int .u32 0, .int .u32 kx] 25)
    have d0 := hX3.cell 0
    have d1 := hX3.cell 1
    have d2 := hX3.cell 2
    have d3 := hX3.cell 3
    have d4 := hX3.cell 4
    have d5 := hX3.cell 5
    simp only [List.getElem?_toArray, List.getElem?_cons_zero, List.getElem?_cons_succ] at d0 d1 d2 d3 d4 d5
    clear hX3
    go_wp2_with (first | (go_at_call 12; refine (num_any _ _).mono ?_; rintro e w' ⟨rfl, rfl⟩))
    refine (all_any _).mono ?_
    rintro e w3 ⟨rfl, b3⟩
    go_wp2_with fail
    refine (refAll_any _).mono ?_
    rintro e w4 ⟨rfl, b4⟩
    have b5 := bnext (bnext (balloc b2 (.cells #[.int .i64 fx, .int .i64 0, .int .u32 ax, .int .u32 mx, .int .u32 0, .int .u32 kx] 25)) b3) b4
    have HP3 := Lib.hid (((HP2.out.alloc (.cells #[.int .i64 fx, .int .i64 0, .int .u32 ax, .int .u32 mx, .int .u32 0, .int .u32 kx] 25)).below b3 (HP2.out.alloc _).lt).below b4 (Nat.lt_of_lt_of_le (HP2.out.alloc _).lt b3.size))
    have HX3 := Lib.hid (((HX2.out.alloc (.cells #[.int .i64 fx, .int .i64 0, .int .u32 ax, .int .u32 mx, .int .u32 0, .int .u32 kx] 25)).below b3 (HX2.out.alloc _).lt).below b4 (Nat.lt_of_lt_of_le (HX2.out.alloc _).lt b3.size))
    clear d0 d1 d2 d3 d4 d5 b2 b3 b4 HP2 HX2
  · have d0 := HX3.out.cell 0
    have d1 := HX3.out.cell 1
    have d2 := HX3.out.cell 2
    have d3 := HX3.out.cell 3
    have d4 := HX3.out.cell 4
    have d5 := HX3.out.cell 5
    simp only [List.getElem?_toArray, List.getElem?_cons_zero, List.getElem?_cons_succ] at d0 d1 d2 d3 d4 d5
    go_wp2_with fail
    refine (CP.out _).mono ?_
    rintro e w5 ⟨rfl, b6⟩
    clear d0 d1 d2 d3 d4 d5
    have hX4 := (HX3.out.below b6 HX3.out.lt).alloc (.cells #[.int .u32 a, .int .i64 n] 28)
    have hP4 := (HP3.out.below b6 HP3.out.lt).alloc (.cells #[.int .u32 a, .int .i64 n] 28)
    replace b6 := bnext b5 b6
    have d0 := hX4.cell 0
    have d1 := hX4.cell 1
    have d2 := hX4.cell 2
    have d3 := hX4.cell 3
    have d4 := hX4.cell 4
    have d5 := hX4.cell 5
    have c0 := hP4.cell 0
    have c1 := hP4.cell 1
    simp only [List.getElem?_toArray, List.getElem?_cons_zero, List.getElem?_cons_succ] at c0 c1 d0 d1 d2 d3 d4 d5
    clear hX4 hP4
    go_wp2_with (first | (go_at_call 12; refine (num_any _ _).mono ?_; rintro e w' ⟨rfl, rfl⟩))
    refine (CY.out _).mono ?_
    rintro e w6 ⟨rfl, b7⟩
    replace b7 := bnext (balloc b6 (.cells #[.int .u32 a, .int .i64 n] 28)) b7
    go_wp2_with fail
    refine (works_any _ (HW.out.below b7)).mono ?_
    rintro e w7 ⟨rfl, b8⟩
    go_wp2_with fail
    go_ret
    exact ⟨rfl, bnext b7 b8⟩
  · go_wp2_with fail
    refine (works_any _ (HW.out.below b5)).mono ?_
    rintro e w5 ⟨rfl, b6⟩
    go_wp2_with fail
    go_ret
    exact ⟨rfl, bnext b5 b6⟩
end Go.Proofs.YtacdanpgdgdjfaaDoor
