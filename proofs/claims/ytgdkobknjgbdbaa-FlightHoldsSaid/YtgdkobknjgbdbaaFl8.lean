/- flight: num, works. -/
import Derived.Test.YtgdkobknjgbdbaaFl7
namespace Go.Proofs.Ytgdkobknjgbdbaa
set_option linter.unusedVariables false
set_option linter.unusedSimpArgs false
open Go.RowKit
set_option maxRecDepth 100000

theorem num19_any (e : Int) (w : World) : Calls Try.prog 10 #[.int .i64 e] w fun r w' => r = .returned (.int .i64 e) ∧ w = w' := by
  go_enter Try.func10, Try.ntmps10
  go_wp2
  go_ret
  exact ⟨rfl, rfl⟩
/-- a mail of which no more is told than when it was sent -/
def mS (t : Int) : Ml := ⟨⟨0, 0, 0, 0, [], t⟩, none, 0⟩
theorem mS_arr (t : Int) : mlA (mS t) = #[.int .i64 0, .int .i64 0, .int .i64 0, .int .u32 0, .slice none 0 0, .int .i64 t] := rfl
theorem Goes.kp {w w' : World} {n0 g room lost : Nat} {v v' : Value} {rs' : List Ml} (h : Goes w w' n0 g v v' rs' room lost) {b : Nat} (hl : b < w.heap.size) (hk : Kp g v b) : Kp g v' b :=
  ⟨hk.1, fun e => by rcases h.2.2 b e with h | h; omega; exact hk.2 h⟩
/-- a block of another's, behind a call on a flight -/
def Beside (w : World) (g : Nat) (v : Value) (X : Nat) (t : TypeId) (cs : Array Value) : Prop := Blk w X t cs ∧ Kp g v X
theorem Beside.goes {w w' : World} {n0 g room lost X : Nat} {v v' : Value} {rs' : List Ml} {t : TypeId} {cs : Array Value} (hb : Beside w g v X t cs) (h : Goes w w' n0 g v v' rs' room lost) : Beside w' g v' X t cs :=
  ⟨h.2.1.blk hb.1 hb.2, h.kp hb.1.lt hb.2⟩
theorem Beside.below {w w' : World} {g X : Nat} {v : Value} {t : TypeId} {cs : Array Value} (hb : Beside w g v X t cs) (h : Below w.heap.size w w') : Beside w' g v X t cs := ⟨hb.1.below h hb.1.lt, hb.2⟩
theorem Beside.new {w : World} {n0 g room lost : Nat} {v : Value} {rs : List Ml} (hF : Fl w n0 g v rs room lost) (t : TypeId) (cs : Array Value) : Beside (w.alloc (.cells cs t)) g v w.heap.size t cs :=
  ⟨Blk.new w t cs, ⟨by have := hF.blk.lt; omega, fun e => by have := hF.row_lt _ e; omega⟩⟩

theorem Fl.base {w w' : World} {n0 g room lost : Nat} {v : Value} {rs : List Ml} (hF : Fl w n0 g v rs room lost) (h : Fr (Kp g v) w w') : Fr (· < n0) w w' :=
  h.mono (fun b _ hb => ⟨by have := hF.ge; omega, fun e => by have := own_base' hF.own b e; omega⟩)

set_option maxHeartbeats 4000000 in
theorem works19_any (w : World) : Calls Try.prog 8 #[] w fun e w' => e = .returned (.bool true) ∧ Below w.heap.size w w' := by
  have hN : Calls Try.prog 9 #[.int .i64 2] w _ := new_ok 2 w.heap.size w (by omega) (Nat.le_refl _)
  have HN := Lib.hid hN
  clear hN
  go_enter Try.func8, Try.ntmps8
  go_wp2_with fail
  refine HN.out.mono ?_
  rintro e w1 ⟨g, rfl, F1, hg, b1⟩
  have hs1 := b1.size
  have P1 := put_ok (mS 5) F1 rfl (by simp) hs1 Rd.nil (by simp [mS])
  rw [mS_arr] at P1
  have P1 := Lib.hid P1
  have hw1 : Fr (· < w.heap.size) w w1 := Fr.of_below b1
  clear HN b1
  go_wp2_with fail
  refine P1.out.mono ?_
  rintro e w2 ⟨v2, ⟨m1, A1, c1⟩, rfl, hm1, F2, f2, hv2⟩
  simp only [mS] at hm1
  subst hm1
  have hs2 : w.heap.size ≤ w2.heap.size := Nat.le_trans hs1 f2.2.2.2.1
  simp only [List.nil_append] at F2
  have P2 := put_ok (mS 3) F2 rfl (by simp) hs2 Rd.nil (by simp [mS])
  rw [mS_arr] at P2
  have P2 := Lib.hid P2
  clear P1
  go_wp2_with fail
  refine P2.out.mono ?_
  rintro e w3 ⟨v3, ⟨m2, A2, c2⟩, rfl, hm2, F3, f3, hv3⟩
  simp only [mS] at hm2
  subst hm2
  have hs3 : w.heap.size ≤ w3.heap.size := Nat.le_trans hs2 f3.2.2.2.1
  simp only [List.cons_append, List.nil_append] at F3
  have P3 := put_full (mS 9) F3 rfl (by simp)
  rw [mS_arr] at P3
  have P3 := Lib.hid P3
  clear P2
  go_wp2_with fail
  refine P3.out.mono ?_
  rintro e w4 ⟨rfl, F4, f4⟩
  have hs4 : w.heap.size ≤ w4.heap.size := Nat.le_trans hs3 f4.2.2.2.1
  have QL : Calls Try.prog 15 #[.pointer (some ⟨g, 0, none⟩)] w4 fun e w' => e = .returned (.int .i64 2) ∧ w4 = w' := len_any F4
  have QK : Calls Try.prog 16 #[.pointer (some ⟨g, 0, none⟩)] w4 fun e w' => e = .returned (.int .i64 1) ∧ w4 = w' := lost_any F4
  have QL := Lib.hid QL
  have QK := Lib.hid QK
  have QP := peek_ok (-1) ⟨⟨0, 0, 0, 0, [], 3⟩, A2, c2⟩ F4 (by simp) rfl
  have QP := Lib.hid QP
  clear P3
  go_wp2_with fail
  refine QL.out.mono ?_
  rintro e w' ⟨rfl, rfl⟩
  go_wp2_with fail
  refine QK.out.mono ?_
  rintro e w' ⟨rfl, rfl⟩
  go_wp2_with fail
  refine QP.out.mono ?_
  rintro e w5 ⟨⟨xA, xc, he, _, _, _, _⟩, b5⟩
  obtain rfl : e = .returned (.tuple #[.agg #[.int .i64 0, .int .i64 0, .int .i64 0, .int .u32 0, .slice xA 0 xc, .int .i64 3], .int .i64 0]) := he
  clear QL QK QP
  go_wp2_with fail
  have F5 : Fl (w5.alloc (.cells #[.int .i64 0, .int .i64 0, .int .i64 0, .int .u32 0, .slice xA 0 xc, .int .i64 3] 33)) w.heap.size g v3 [⟨⟨0, 0, 0, 0, [], 5⟩, A1, c1⟩, ⟨⟨0, 0, 0, 0, [], 3⟩, A2, c2⟩] 2 (lostN 0) := (F4.below b5).below (balloc (Below.refl _ _) _)
  have X5 : Beside (w5.alloc (.cells #[.int .i64 0, .int .i64 0, .int .i64 0, .int .u32 0, .slice xA 0 xc, .int .i64 3] 33)) g v3 w5.heap.size 33 #[.int .i64 0, .int .i64 0, .int .i64 0, .int .u32 0, .slice xA 0 xc, .int .i64 3] := Beside.new (F4.below b5) 33 _
  have hs5 : w.heap.size ≤ (w5.alloc (.cells #[.int .i64 0, .int .i64 0, .int .i64 0, .int .u32 0, .slice xA 0 xc, .int .i64 3] 33)).heap.size := by have := b5.size; simp; omega
  have f5 : Fr (· < w.heap.size) w (w5.alloc (.cells #[.int .i64 0, .int .i64 0, .int .i64 0, .int .u32 0, .slice xA 0 xc, .int .i64 3] 33)) := by
    have h4 : Fr (· < w.heap.size) w w4 := ((hw1.trans (F1.base f2)).trans (F2.base f3)).trans (F3.base f4)
    exact (h4.trans (Fr.of_below b5)).trans (Fr.alloc _)
  generalize w5.alloc (.cells #[.int .i64 0, .int .i64 0, .int .i64 0, .int .u32 0, .slice xA 0 xc, .int .i64 3] 33) = W5 at *
  clear F1 F2 F3 F4 f2 f3 f4 hv2 hv3 hw1 b5
  have QA := Lib.hid (late_ok 8 5 ⟨⟨0, 0, 0, 0, [], 3⟩, A2, c2⟩ 1 F5 (by omega) (by omega) (by rfl) (by simp) rfl hs5)
  refine QA.out.mono ?_
  rintro e w6 ⟨⟨yA, yc, he, _, _, _, _⟩, v6, G6⟩
  obtain rfl : e = .returned (.tuple #[.agg #[.int .i64 0, .int .i64 0, .int .i64 0, .int .u32 0, .slice yA 0 yc, .int .i64 3], .int .i64 0]) := he
  go_wp2_with fail
  have s6 : W5.heap.size ≤ w6.heap.size := G6.2.1.2.2.2.1
  have X6 := (X5.goes G6).below (balloc (Below.refl _ _) (.cells #[.int .i64 0, .int .i64 0, .int .i64 0, .int .u32 0, .slice yA 0 yc, .int .i64 3] 33))
  have Y6 := Beside.new G6.1 33 #[.int .i64 0, .int .i64 0, .int .i64 0, .int .u32 0, .slice yA 0 yc, .int .i64 3]
  have F6 := G6.1.below (balloc (Below.refl _ _) (.cells #[.int .i64 0, .int .i64 0, .int .i64 0, .int .u32 0, .slice yA 0 yc, .int .i64 3] 33))
  have f6 := (f5.trans (F5.base G6.2.1)).trans (Fr.alloc (.cells #[.int .i64 0, .int .i64 0, .int .i64 0, .int .u32 0, .slice yA 0 yc, .int .i64 3] 33))
  have hs6 : w.heap.size ≤ (w6.alloc (.cells #[.int .i64 0, .int .i64 0, .int .i64 0, .int .u32 0, .slice yA 0 yc, .int .i64 3] 33)).heap.size := by simp; omega
  simp only [List.eraseIdx_cons_succ, List.eraseIdx_cons_zero] at F6
  generalize w6.alloc (.cells #[.int .i64 0, .int .i64 0, .int .i64 0, .int .u32 0, .slice yA 0 yc, .int .i64 3] 33) = W6 at *
  clear F5 f5 X5 G6 QA
  have QB := Lib.hid (late_none 8 5 F6 (by omega) (by omega) (by rfl))
  refine QB.out.mono ?_
  rintro e w7 ⟨rfl, b7⟩
  go_wp2_with fail
  have b7' : Below W6.heap.size W6 (w7.alloc (.cells #[.int .i64 0, .int .i64 0, .int .i64 0, .int .u32 0, .slice none 0 0, .int .i64 0] 33)) := balloc b7 _
  have X7 := X6.below b7'
  have Y7 := Y6.below b7'
  have F7 := F6.below b7'
  have f7 := f6.trans (Fr.of_below b7')
  have hs7 : w.heap.size ≤ (w7.alloc (.cells #[.int .i64 0, .int .i64 0, .int .i64 0, .int .u32 0, .slice none 0 0, .int .i64 0] 33)).heap.size := Nat.le_trans hs6 b7'.size
  generalize w7.alloc (.cells #[.int .i64 0, .int .i64 0, .int .i64 0, .int .u32 0, .slice none 0 0, .int .i64 0] 33) = W7 at *
  clear X6 Y6 F6 f6 b7 b7' QB
  have QC : Calls Try.prog 24 #[.pointer (some ⟨g, 0, none⟩), .int .i64 8, .int .i64 3] W7 fun e w' => e = .returned (.int .i64 1) ∧ Below W7.heap.size W7 w' := count_any 8 3 F7 (by omega)
  have QC := Lib.hid QC
  refine QC.out.mono ?_
  rintro e W8 ⟨rfl, b8'⟩
  have X8 := X7.below b8'
  have Y8 := Y7.below b8'
  have F8 := F7.below b8'
  have f8 := f7.trans (Fr.of_below b8')
  have hs8 : w.heap.size ≤ W8.heap.size := Nat.le_trans hs7 b8'.size
  clear X7 Y7 F7 f7 b8' QC
  go_wp2_with fail
  have QD := Lib.hid (take_ok 7 ⟨⟨0, 0, 0, 0, [], 5⟩, A1, c1⟩ F8 (by simp) (by simp [pickF]) hs8)
  refine QD.out.mono ?_
  rintro e w9 ⟨⟨zA, zc, he, _, _, _, _⟩, v9, G9⟩
  obtain rfl : e = .returned (.tuple #[.agg #[.int .i64 0, .int .i64 0, .int .i64 0, .int .u32 0, .slice zA 0 zc, .int .i64 5], .int .i64 0]) := he
  go_wp2_with fail
  have s9 : W8.heap.size ≤ w9.heap.size := G9.2.1.2.2.2.1
  have X9 := (X8.goes G9).below (balloc (Below.refl _ _) (.cells #[.int .i64 0, .int .i64 0, .int .i64 0, .int .u32 0, .slice zA 0 zc, .int .i64 5] 33))
  have Y9 := (Y8.goes G9).below (balloc (Below.refl _ _) (.cells #[.int .i64 0, .int .i64 0, .int .i64 0, .int .u32 0, .slice zA 0 zc, .int .i64 5] 33))
  have Z9 := Beside.new G9.1 33 #[.int .i64 0, .int .i64 0, .int .i64 0, .int .u32 0, .slice zA 0 zc, .int .i64 5]
  have F9 := G9.1.below (balloc (Below.refl _ _) (.cells #[.int .i64 0, .int .i64 0, .int .i64 0, .int .u32 0, .slice zA 0 zc, .int .i64 5] 33))
  have f9 := (f8.trans (F8.base G9.2.1)).trans (Fr.alloc (.cells #[.int .i64 0, .int .i64 0, .int .i64 0, .int .u32 0, .slice zA 0 zc, .int .i64 5] 33))
  generalize w9.alloc (.cells #[.int .i64 0, .int .i64 0, .int .i64 0, .int .u32 0, .slice zA 0 zc, .int .i64 5] 33) = W9 at *
  clear X8 Y8 F8 f8 G9 QD
  have QE := Lib.hid (take_none 7 F9 (by simp [pickF]))
  refine QE.out.mono ?_
  rintro e w10 ⟨rfl, b10⟩
  go_wp2_with fail
  have b10' : Below W9.heap.size W9 (w10.alloc (.cells #[.int .i64 0, .int .i64 0, .int .i64 0, .int .u32 0, .slice none 0 0, .int .i64 0] 33)) := balloc b10 _
  have x5 := (X9.below b10').1.cell 5
  have y5 := (Y9.below b10').1.cell 5
  have z5 := (Z9.below b10').1.cell 5
  have f10 := f9.trans (Fr.of_below b10')
  have BE : Below w.heap.size w (w10.alloc (.cells #[.int .i64 0, .int .i64 0, .int .i64 0, .int .u32 0, .slice none 0 0, .int .i64 0] 33)) := f10.below (Nat.le_refl _) (fun b hb => hb)
  generalize w10.alloc (.cells #[.int .i64 0, .int .i64 0, .int .i64 0, .int .u32 0, .slice none 0 0, .int .i64 0] 33) = WE at *
  clear X9 Y9 Z9 F9 f9 f10 b10 b10' QE
  simp only [List.getElem?_toArray, List.getElem?_cons_zero, List.getElem?_cons_succ] at x5 y5 z5
  go_wp2_with (go_at_call 10; refine (num19_any _ _).mono ?_; rintro e w' ⟨rfl, rfl⟩)
  go_ret
  exact ⟨rfl, BE⟩
end Go.Proofs.Ytgdkobknjgbdbaa
