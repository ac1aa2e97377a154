/- The chapter's rows of octet (works): true. -/
import Derived.Test.YtonjaoabehkecaaDoorRdr
import Derived.Test.YtonjaoabehkecaaDoorRdr2
namespace Go.Proofs.YtonjaoabehkecaaDoor
set_option linter.unusedVariables false
set_option linter.unusedSimpArgs false
open Go.RowKit

set_option maxHeartbeats 1000000 in
set_option maxRecDepth 100000 in
theorem works_any (w : World) (hw : WidthsAt w) :
    Calls Tryd.prog 8 #[] w fun e w' => e = .returned (.bool true) ∧ Below w.heap.size w w' := by
  have c1 : ∀ W, WidthsAt W → Calls Tryd.prog 9 #[.int .u32 258, .int .i64 2] W (GivesB [1, 2] 0 W) := fun W h => put_any 258 2 W h (by omega)
  have c2 : ∀ W, WidthsAt W → Calls Tryd.prog 9 #[.int .u32 256, .int .i64 1] W (GivesB [] 4 W) := fun W h => put_any 256 1 W h (by omega)
  have c3 : ∀ W, WidthsAt W → Calls Tryd.prog 9 #[.int .u32 1, .int .i64 3] W (GivesB [] 2 W) := fun W h => put_any 1 3 W h (by omega)
  have c4 : ∀ W B A, WidthsAt W → Rd W B A (([1, 2, 3] : List UInt8).map b8) → Calls Tryd.prog 12 #[.slice A 3 3, .int .i64 1, .int .i64 2] W (GivesN (515, 0) W) := fun W B A h r => read_any [1, 2, 3] 3 rfl A 3 B W h r (by omega) (by omega) 1 2
  have c5 : ∀ W B A, WidthsAt W → Rd W B A (([1, 2, 3] : List UInt8).map b8) → Calls Tryd.prog 12 #[.slice A 3 3, .int .i64 2, .int .i64 2] W (GivesN (0, 130) W) := fun W B A h r => read_any [1, 2, 3] 3 rfl A 3 B W h r (by omega) (by omega) 2 2
  have c6 : ∀ W g, WidthsAt W → IsRdr W g [0, 1, 2] 0 → Calls Tryd.prog 15 #[.pointer (some ⟨g, 0, none⟩), .int .i64 2] W fun e w' => e = .returned (.tuple #[.int .u32 1, .int .i64 0]) ∧ Moved W w' g [0, 1, 2] 2 := fun W g h r => take_some g 2 W [0, 1, 2] 0 r h
  have c7 : ∀ W g, WidthsAt W → IsRdr W g [0, 1, 2] 2 → Calls Tryd.prog 15 #[.pointer (some ⟨g, 0, none⟩), .int .i64 2] W fun e w' => e = .returned (.tuple #[.int .u32 0, .int .i64 130]) ∧ Moved W w' g [0, 1, 2] 2 := fun W g h r => take_some g 2 W [0, 1, 2] 2 r h
  have c8 : ∀ W g, WidthsAt W → IsRdr W g [0, 1, 2] 2 → Calls Tryd.prog 15 #[.pointer (some ⟨g, 0, none⟩), .int .i64 1] W fun e w' => e = .returned (.tuple #[.int .u32 2, .int .i64 0]) ∧ Moved W w' g [0, 1, 2] 3 := fun W g h r => take_some g 1 W [0, 1, 2] 2 r h
  have C4 := Lib.hid c4
  have C5 := Lib.hid c5
  have C6 := Lib.hid c6
  have C7 := Lib.hid c7
  have C8 := Lib.hid c8
  clear c4 c5 c6 c7 c8
  have C1 := Lib.hid c1
  have C2 := Lib.hid c2
  have C3 := Lib.hid c3
  clear c1 c2 c3
  have HW := Lib.hid hw
  clear hw
  go_enter Tryd.func8, Tryd.ntmps8
  go_wp2_with fail
  refine (C1.out _ HW.out).mono ?_
  rintro e w1 ⟨A1, k1, rfl, _, _, r1, b1⟩
  go_wp2_with fail
  refine (C2.out _ (HW.out.below b1)).mono ?_
  rintro e w2 ⟨A2, k2, rfl, _, _, _, b2⟩
  replace r1 := r1.below b2
  replace r1 := r1.more b2.size
  replace b2 := bnext b1 b2
  clear b1
  go_wp2_with fail
  refine (C3.out _ (HW.out.below b2)).mono ?_
  rintro e w3 ⟨A3, k3, rfl, _, _, _, b3⟩
  replace r1 := r1.below b3
  replace r1 := r1.more b3.size
  replace b3 := bnext b2 b3
  clear b2
  go_wp2_with fail
  have R1 : Rd (w3.alloc (.cells #[.int .u8 1, .int .u8 2, .int .u8 3] 5)) (w3.heap.size + 1) (some ⟨w3.heap.size, 0, none⟩) (([1, 2, 3] : List UInt8).map b8) := Rd.new w3 5 (([1, 2, 3] : List UInt8).map b8)
  refine (C4.out _ _ _ (HW.out.below (balloc b3 _)) R1).mono ?_
  rintro e w4 ⟨rfl, rfl⟩
  clear R1
  go_wp2_with fail
  have b5 := balloc (balloc b3 (.cells #[.int .u8 1, .int .u8 2, .int .u8 3] 5)) (.cells #[.int .u8 1, .int .u8 2, .int .u8 3] 5)
  replace r1 := (r1.alloc (Nat.le_refl _) (.cells #[.int .u8 1, .int .u8 2, .int .u8 3] 5)).alloc (by simp) (.cells #[.int .u8 1, .int .u8 2, .int .u8 3] 5)
  have R1 := Rd.new (w3.alloc (.cells #[.int .u8 1, .int .u8 2, .int .u8 3] 5)) 5 (([1, 2, 3] : List UInt8).map b8)
  simp only [World.size_alloc] at R1
  refine (C5.out _ _ _ (HW.out.below b5) R1).mono ?_
  rintro e w5 ⟨rfl, rfl⟩
  clear R1 b3
  go_wp2_with fail
  replace r1 := r1.alloc (by simp; omega) (.cells #[.int .u8 0, .int .u8 1, .int .u8 2] 5)
  replace b5 := balloc b5 (.cells #[.int .u8 0, .int .u8 1, .int .u8 2] 5)
  have R1 := Rd.new ((w3.alloc (.cells #[.int .u8 1, .int .u8 2, .int .u8 3] 5)).alloc (.cells #[.int .u8 1, .int .u8 2, .int .u8 3] 5)) 5 (([0, 1, 2] : List UInt8).map b8)
  simp only [World.size_alloc] at R1
  refine (new_any [0, 1, 2] 3 rfl _ _ _ _ R1 (by omega) (by simp)).mono ?_
  rintro e w6 ⟨g, rfl, hr6, hg6, b6⟩
  replace r1 := r1.below (b6.mono (by simp; omega))
  have hg : w3.heap.size ≤ g := by simp at hg6; omega
  have hwg : w.heap.size ≤ g := by have := b5.size; simp only [World.size_alloc] at this hg6; omega
  replace b6 := bnext b5 b6
  clear R1 b5 hg6
  go_wp2_with fail
  refine (C6.out _ _ (HW.out.below b6) hr6).mono ?_
  rintro e w7 ⟨rfl, hr7, g7⟩
  replace r1 := r1.keep (w' := w7) (fun p hp => World.cell?_of_block (g7.block _ (by have := hr6.choose_spec.choose_spec.1.lt; omega) (by intro e; injection e; omega)))
  replace b6 := bgrown b6 g7 hwg
  go_wp2_with fail
  refine (left_some g _ _ _ hr7).mono ?_
  rintro e w8 ⟨rfl, m8, rfl⟩
  replace r1 := r1.drewN m8
  replace b6 := below_drewN b6 m8
  replace hr7 : IsRdr (w7.drewN m8) g [0, 1, 2] 2 := hr7
  generalize w7.drewN m8 = w9 at *
  clear hr6 g7 C1 C2 C3 C4 C5 C6
  go_wp2_with fail
  refine (C7.out _ _ (HW.out.below b6) hr7).mono ?_
  rintro e wa ⟨rfl, hra, ga⟩
  replace r1 := r1.keep (w' := wa) (fun p hp => World.cell?_of_block (ga.block _ (by have := hr7.choose_spec.choose_spec.1.lt; omega) (by intro e; injection e; omega)))
  replace b6 := bgrown b6 ga hwg
  clear hr7 ga C7
  go_wp2_with fail
  refine (C8.out _ _ (HW.out.below b6) hra).mono ?_
  rintro e wb ⟨rfl, hrb, gb⟩
  replace r1 := r1.keep (w' := wb) (fun p hp => World.cell?_of_block (gb.block _ (by have := hra.choose_spec.choose_spec.1.lt; omega) (by intro e; injection e; omega)))
  replace b6 := bgrown b6 gb hwg
  have hs := conv_rd (P := Tryd.prog) 23 9 5 Tryd.underlying23 Tryd.underlying5 Tryd.underlying9 k1 r1
  simp only [List.length_cons, List.length_nil] at hs
  have hne : (str [1, 2]).toList = [1, 2] := str_toList _
  clear hra gb C8
  go_wp2_with (first
    | (go_at_call 11; refine (num_any _ _).mono ?_; rintro e w' ⟨rfl, rfl⟩)
    | (go_at_call 22; refine (at_some g _ _ _ hrb).mono ?_; rintro e w' ⟨rfl, rfl⟩)
    | (go_at_call 21; refine (rest_some g _ _ _ hrb (by simp)).mono ?_; rintro e wc ⟨Ac, kc, rfl, _, _, _, bc, _⟩))
  go_ret
  exact ⟨rfl, bnext b6 bc⟩
end Go.Proofs.YtonjaoabehkecaaDoor
