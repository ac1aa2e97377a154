/- entry.Read: the entry of any bytes. -/
import Derived.Test.YtpadlillbofpnaaDoorERd
namespace Go.Proofs.YtpadlillbofpnaaDoor
set_option linter.unusedVariables false
set_option linter.unusedSimpArgs false
open Go.RowKit
set_option maxRecDepth 100000

/-- a field: so many bytes from a place on -/
def fld (l : List UInt8) (p k : Nat) : Nat := be ((l.drop p).take k)
theorem fld_lt (l : List UInt8) (p k : Nat) : fld l p k < 256 ^ k := by
  unfold fld
  have h := be_lt ((l.drop p).take k)
  have h2 : 256 ^ ((l.drop p).take k).length ≤ 256 ^ k := Nat.pow_le_pow_right (by omega) (List.length_take_le _ _)
  omega
theorem fld_take (l : List UInt8) (n p k : Nat) (h : p + k ≤ n) : fld (l.take n) p k = fld l p k := by
  unfold fld
  rw [List.drop_take, List.take_take, Nat.min_eq_left (by omega)]
theorem rdF_fld (l : List UInt8) (p k : Nat) (hk : k = 2 ∨ k = 4) (h : p + k ≤ l.length) : rdF l p k = (fld l p k, 0) := by
  unfold rdF fld
  rw [if_neg (by rcases hk with rfl | rfl <;> simp [isW]), if_neg (by omega), if_neg (by omega), Int.toNat_natCast, Int.toNat_natCast]
theorem rdF_ends (l : List UInt8) (p k : Nat) (hk : k = 2 ∨ k = 4) (h : l.length < p + k) : rdF l p k = (0, 130) := by
  unfold rdF
  rw [if_neg (by rcases hk with rfl | rfl <;> simp [isW]), if_neg (by omega), if_pos (by omega)]
def readE (l : List UInt8) : Value := .agg #[.int .i64 (fld l 0 2), .int .i64 (fld l 2 2), .int .u32 (fld l 4 4), .int .u32 (fld l 8 4), .int .u32 (fld l 12 4), .int .u32 (fld l 16 4)]

set_option maxHeartbeats 400000 in
theorem new_rs (l : List UInt8) (n : Nat) (hn : l.length = n) (A : Option Addr) (c B : Nat) (w : World) (h : Rd w B A (l.map b8)) (hl : n ≤ 1048576) (hB : B ≤ w.heap.size) :
    Calls Tryd.prog 63 #[.slice A n c] w fun e w' => ∃ g A1 c1, e = .returned (.pointer (some ⟨g, 0, none⟩)) ∧ Blk w' g 113 #[.slice A1 l.length c1, .int .i64 ((0 : Nat) : Int), .bool true] ∧ Rd w' g A1 (l.map b8) ∧ l.length ≤ c1 ∧ c1 ≤ maxLen ∧ (∀ a, A1 = some a → w.heap.size ≤ a.block) ∧ w.heap.size ≤ g ∧ Below w.heap.size w w' := by
  have HN := Lib.hid hn
  clear hn
  go_enter Tryd.func63, Tryd.ntmps63
  go_wp2_with (go_at_call 45; refine (clone_any l _ HN.out _ _ _ _ h hl hB).mono ?_; rintro e w1 ⟨A1, c1, rfl, hc1, hm1, hr1, hb1, hx1⟩)
  go_ret
  exact ⟨_, A1, c1, rfl, Blk.new _ _ _, hr1.alloc (Nat.le_refl _) _, hc1, hm1, hx1, hb1.size, hb1.alloc hb1.size _⟩

set_option maxHeartbeats 500000 in
theorem eread_bad0 (l' : List UInt8) (n : Nat) (hlen : l'.length = n) (A : Option Addr) (c : Nat) (w : World) (hw : WidthsAt w) (hrd : Rd w w.heap.size A (l'.map b8)) (hlc : n ≤ c) (hcm : c ≤ 9223372036854775807) (hl1 : 0 ≤ n) (hl2 : n < 2) :
    Calls Tryd.prog 47 #[.slice A n c] w fun e w' => e = .returned (.tuple #[.agg #[.int .i64 0, .int .i64 0, .int .u32 0, .int .u32 0, .int .u32 0, .int .u32 0], .int .i64 130]) ∧ Below w.heap.size w w' := by
  have hl : n < 20 := by omega
  have R0 := Lib.hid (show rdF l' ((0 : Nat) : Int) (2 : Int) = (0, 130) from rdF_ends l' 0 2 (by omega) (by omega))
  have HW := Lib.hid hw
  have HL := Lib.hid hlen
  have B0 : Below w.heap.size w ((w.alloc (.cells #[.int .i64 0, .int .i64 0, .int .u32 0, .int .u32 0, .int .u32 0, .int .u32 0] 55)).alloc (.cells #[.int .i64 0] 28)) := balloc (balloc (Below.refl _ _) _) _
  have x0 := (Blk.new w 55 #[.int .i64 0, .int .i64 0, .int .u32 0, .int .u32 0, .int .u32 0, .int .u32 0]).alloc (.cells #[.int .i64 0] 28)
  have x1 := Blk.new (w.alloc (.cells #[.int .i64 0, .int .i64 0, .int .u32 0, .int .u32 0, .int .u32 0, .int .u32 0] 55)) 28 #[.int .i64 0]
  rw [World.size_alloc] at x1
  have X := Lib.hid (And.intro x0 x1)
  clear hw hlen x0 x1
  have hmf : ∀ (fn : Fn) (first cap : Array Value) (w : World), (Instr.makeFunc fn first cap).run Tryd.prog w = .ok (.func fn first cap) w := fun _ _ _ _ => rfl
  have hmn : min (n : Int) 20 = n := by omega
  go_enter_defers Tryd.func47, Tryd.ntmps47
  go_wp2_with fail
  with_reducible refine (new_rs l' _ HL.out _ _ w.heap.size _ (hrd.below B0) (by omega) (by simp; omega)).mono ?_
  rintro e w1 ⟨g, A1, c1, rfl, y1, y2, y3, y4, y5, y6, y7⟩
  simp only [World.size_alloc] at y5 y6
  have S0 : RS w g w1.heap.size A1 c1 l' 0 #[.int .i64 0, .int .i64 0, .int .u32 0, .int .u32 0, .int .u32 0, .int .u32 0] (w1.alloc (.cells #[.pointer (some ⟨g, 0, none⟩)] 104)) :=
    ⟨⟨y1.alloc _, y2.alloc (Nat.le_of_lt y1.lt) _, fun a ha => by have := y5 a ha; omega⟩, ⟨(X.out.1.below y7 X.out.1.lt).alloc _, (X.out.2.below y7 X.out.2.lt).alloc _, Blk.new _ _ _⟩, balloc (bnext B0 y7) _, by omega, y1.lt⟩
  have HS0 := Lib.hid S0
  have hc1 : c1 ≤ 9223372036854775807 := by unfold maxLen at y4; omega
  clear S0 y1 y2 y4 y5 y6 y7 X B0
  go_wp2_with fail
  with_reducible refine (next_bad w _ (HW.out.below HS0.out.bel) g w1.heap.size c1 0 A1 l' #[.int .i64 0, .int .i64 0, .int .u32 0, .int .u32 0, .int .u32 0, .int .u32 0] 2 HS0.out y3 hc1 (by have := HL.out; omega) R0.out).mono ?_
  rintro e ub ⟨rfl, sb⟩
  go_wp2_with fail
  refine leaves_cons (f := 62) (args := #[.pointer (some ⟨w.heap.size, 0, none⟩), .pointer (some ⟨w.heap.size + 1, 0, none⟩)]) (by simp) (by simp [go_sem]) ?_
  with_reducible refine (catch_pan w.heap.size (w.heap.size + 1) (.int .i64 0) (.int .i64 0) (.int .u32 0) (.int .u32 0) (.int .u32 0) (.int .u32 0) [] _ sb.outB sb.errB (by omega)).mono ?_
  rintro e u' wz ⟨rfl, rfl, z1, z2, z3⟩
  have d0 := (z1).cell 0
  have d1 := (z1).cell 1
  have d2 := (z1).cell 2
  have d3 := (z1).cell 3
  have d4 := (z1).cell 4
  have d5 := (z1).cell 5
  simp only [List.getElem?_toArray, List.getElem?_cons_zero, List.getElem?_cons_succ] at d0 d1 d2 d3 d4 d5
  have h0 := (z2).cell 0
  simp only [List.getElem?_toArray, List.getElem?_cons_zero, List.getElem?_cons_succ] at h0
  have bz := sb.bel.trans (z3 w.heap.size (Nat.le_refl _) (by omega))
  simp [Leaves, settle, results, Tryd.results47, go_sem, d0, d1, d2, d3, d4, d5, h0]
  exact bz

set_option maxHeartbeats 500000 in
theorem eread_bad1 (l' : List UInt8) (n : Nat) (hlen : l'.length = n) (A : Option Addr) (c : Nat) (w : World) (hw : WidthsAt w) (hrd : Rd w w.heap.size A (l'.map b8)) (hlc : n ≤ c) (hcm : c ≤ 9223372036854775807) (hl1 : 2 ≤ n) (hl2 : n < 4) :
    Calls Tryd.prog 47 #[.slice A n c] w fun e w' => e = .returned (.tuple #[.agg #[.int .i64 0, .int .i64 0, .int .u32 0, .int .u32 0, .int .u32 0, .int .u32 0], .int .i64 130]) ∧ Below w.heap.size w w' := by
  have hl : n < 20 := by omega
  have R0 := Lib.hid (show rdF l' ((0 : Nat) : Int) (2 : Int) = (fld l' 0 2, 0) from rdF_fld l' 0 2 (by omega) (by omega))
  have R1 := Lib.hid (show rdF l' ((2 : Nat) : Int) (2 : Int) = (0, 130) from rdF_ends l' 2 2 (by omega) (by omega))
  have hf0 := fld_lt l' 0 2
  generalize fld l' 0 2 = v0 at *
  have hv0 : IntKind.i64.wrap (v0 : Int) = v0 := IntWalk.i64_in _ ⟨by omega, by omega⟩
  have HW := Lib.hid hw
  have HL := Lib.hid hlen
  have B0 : Below w.heap.size w ((w.alloc (.cells #[.int .i64 0, .int .i64 0, .int .u32 0, .int .u32 0, .int .u32 0, .int .u32 0] 55)).alloc (.cells #[.int .i64 0] 28)) := balloc (balloc (Below.refl _ _) _) _
  have x0 := (Blk.new w 55 #[.int .i64 0, .int .i64 0, .int .u32 0, .int .u32 0, .int .u32 0, .int .u32 0]).alloc (.cells #[.int .i64 0] 28)
  have x1 := Blk.new (w.alloc (.cells #[.int .i64 0, .int .i64 0, .int .u32 0, .int .u32 0, .int .u32 0, .int .u32 0] 55)) 28 #[.int .i64 0]
  rw [World.size_alloc] at x1
  have X := Lib.hid (And.intro x0 x1)
  clear hw hlen x0 x1
  have hmf : ∀ (fn : Fn) (first cap : Array Value) (w : World), (Instr.makeFunc fn first cap).run Tryd.prog w = .ok (.func fn first cap) w := fun _ _ _ _ => rfl
  have hmn : min (n : Int) 20 = n := by omega
  go_enter_defers Tryd.func47, Tryd.ntmps47
  go_wp2_with fail
  with_reducible refine (new_rs l' _ HL.out _ _ w.heap.size _ (hrd.below B0) (by omega) (by simp; omega)).mono ?_
  rintro e w1 ⟨g, A1, c1, rfl, y1, y2, y3, y4, y5, y6, y7⟩
  simp only [World.size_alloc] at y5 y6
  have S0 : RS w g w1.heap.size A1 c1 l' 0 #[.int .i64 0, .int .i64 0, .int .u32 0, .int .u32 0, .int .u32 0, .int .u32 0] (w1.alloc (.cells #[.pointer (some ⟨g, 0, none⟩)] 104)) :=
    ⟨⟨y1.alloc _, y2.alloc (Nat.le_of_lt y1.lt) _, fun a ha => by have := y5 a ha; omega⟩, ⟨(X.out.1.below y7 X.out.1.lt).alloc _, (X.out.2.below y7 X.out.2.lt).alloc _, Blk.new _ _ _⟩, balloc (bnext B0 y7) _, by omega, y1.lt⟩
  have HS0 := Lib.hid S0
  have hc1 : c1 ≤ 9223372036854775807 := by unfold maxLen at y4; omega
  clear S0 y1 y2 y4 y5 y6 y7 X B0
  go_wp2_with fail
  with_reducible refine (next_ok w _ (HW.out.below HS0.out.bel) g w1.heap.size c1 0 v0 A1 l' #[.int .i64 0, .int .i64 0, .int .u32 0, .int .u32 0, .int .u32 0, .int .u32 0] 2 HS0.out y3 hc1 (by have := HL.out; omega) (by omega) (by have := HL.out; omega) R0.out).mono ?_
  rintro e u0 ⟨rfl, s0⟩
  replace s0 : RS w g w1.heap.size A1 c1 l' 2 #[.int .i64 0, .int .i64 0, .int .u32 0, .int .u32 0, .int .u32 0, .int .u32 0] u0 := s0
  have d0 := s0.outB.cell 0
  have f0 := s0.outB.frozen 0
  simp only [List.getElem?_toArray, List.getElem?_cons_zero, List.getElem?_cons_succ] at d0
  have t0 := s0.put 0 (.int .i64 v0)
  simp only [List.setIfInBounds_toArray, List.set_cons_zero, List.set_cons_succ] at t0
  have HS1 := Lib.hid t0
  clear s0 t0 HS0
  go_wp2_with fail
  try clear d0 f0
  with_reducible refine (next_bad w _ (HW.out.below HS1.out.bel) g w1.heap.size c1 2 A1 l' #[.int .i64 v0, .int .i64 0, .int .u32 0, .int .u32 0, .int .u32 0, .int .u32 0] 2 HS1.out y3 hc1 (by have := HL.out; omega) R1.out).mono ?_
  rintro e ub ⟨rfl, sb⟩
  go_wp2_with fail
  refine leaves_cons (f := 62) (args := #[.pointer (some ⟨w.heap.size, 0, none⟩), .pointer (some ⟨w.heap.size + 1, 0, none⟩)]) (by simp) (by simp [go_sem]) ?_
  with_reducible refine (catch_pan w.heap.size (w.heap.size + 1) (.int .i64 v0) (.int .i64 0) (.int .u32 0) (.int .u32 0) (.int .u32 0) (.int .u32 0) [] _ sb.outB sb.errB (by omega)).mono ?_
  rintro e u' wz ⟨rfl, rfl, z1, z2, z3⟩
  have d0 := (z1).cell 0
  have d1 := (z1).cell 1
  have d2 := (z1).cell 2
  have d3 := (z1).cell 3
  have d4 := (z1).cell 4
  have d5 := (z1).cell 5
  simp only [List.getElem?_toArray, List.getElem?_cons_zero, List.getElem?_cons_succ] at d0 d1 d2 d3 d4 d5
  have h0 := (z2).cell 0
  simp only [List.getElem?_toArray, List.getElem?_cons_zero, List.getElem?_cons_succ] at h0
  have bz := sb.bel.trans (z3 w.heap.size (Nat.le_refl _) (by omega))
  simp [Leaves, settle, results, Tryd.results47, go_sem, d0, d1, d2, d3, d4, d5, h0]
  exact bz

set_option maxHeartbeats 500000 in
theorem eread_bad2 (l' : List UInt8) (n : Nat) (hlen : l'.length = n) (A : Option Addr) (c : Nat) (w : World) (hw : WidthsAt w) (hrd : Rd w w.heap.size A (l'.map b8)) (hlc : n ≤ c) (hcm : c ≤ 9223372036854775807) (hl1 : 4 ≤ n) (hl2 : n < 8) :
    Calls Tryd.prog 47 #[.slice A n c] w fun e w' => e = .returned (.tuple #[.agg #[.int .i64 0, .int .i64 0, .int .u32 0, .int .u32 0, .int .u32 0, .int .u32 0], .int .i64 130]) ∧ Below w.heap.size w w' := by
  have hl : n < 20 := by omega
  have R0 := Lib.hid (show rdF l' ((0 : Nat) : Int) (2 : Int) = (fld l' 0 2, 0) from rdF_fld l' 0 2 (by omega) (by omega))
  have R1 := Lib.hid (show rdF l' ((2 : Nat) : Int) (2 : Int) = (fld l' 2 2, 0) from rdF_fld l' 2 2 (by omega) (by omega))
  have R2 := Lib.hid (show rdF l' ((4 : Nat) : Int) (4 : Int) = (0, 130) from rdF_ends l' 4 4 (by omega) (by omega))
  have hf0 := fld_lt l' 0 2
  generalize fld l' 0 2 = v0 at *
  have hv0 : IntKind.i64.wrap (v0 : Int) = v0 := IntWalk.i64_in _ ⟨by omega, by omega⟩
  have hf1 := fld_lt l' 2 2
  generalize fld l' 2 2 = v1 at *
  have hv1 : IntKind.i64.wrap (v1 : Int) = v1 := IntWalk.i64_in _ ⟨by omega, by omega⟩
  have HW := Lib.hid hw
  have HL := Lib.hid hlen
  have B0 : Below w.heap.size w ((w.alloc (.cells #[.int .i64 0, .int .i64 0, .int .u32 0, .int .u32 0, .int .u32 0, .int .u32 0] 55)).alloc (.cells #[.int .i64 0] 28)) := balloc (balloc (Below.refl _ _) _) _
  have x0 := (Blk.new w 55 #[.int .i64 0, .int .i64 0, .int .u32 0, .int .u32 0, .int .u32 0, .int .u32 0]).alloc (.cells #[.int .i64 0] 28)
  have x1 := Blk.new (w.alloc (.cells #[.int .i64 0, .int .i64 0, .int .u32 0, .int .u32 0, .int .u32 0, .int .u32 0] 55)) 28 #[.int .i64 0]
  rw [World.size_alloc] at x1
  have X := Lib.hid (And.intro x0 x1)
  clear hw hlen x0 x1
  have hmf : ∀ (fn : Fn) (first cap : Array Value) (w : World), (Instr.makeFunc fn first cap).run Tryd.prog w = .ok (.func fn first cap) w := fun _ _ _ _ => rfl
  have hmn : min (n : Int) 20 = n := by omega
  go_enter_defers Tryd.func47, Tryd.ntmps47
  go_wp2_with fail
  with_reducible refine (new_rs l' _ HL.out _ _ w.heap.size _ (hrd.below B0) (by omega) (by simp; omega)).mono ?_
  rintro e w1 ⟨g, A1, c1, rfl, y1, y2, y3, y4, y5, y6, y7⟩
  simp only [World.size_alloc] at y5 y6
  have S0 : RS w g w1.heap.size A1 c1 l' 0 #[.int .i64 0, .int .i64 0, .int .u32 0, .int .u32 0, .int .u32 0, .int .u32 0] (w1.alloc (.cells #[.pointer (some ⟨g, 0, none⟩)] 104)) :=
    ⟨⟨y1.alloc _, y2.alloc (Nat.le_of_lt y1.lt) _, fun a ha => by have := y5 a ha; omega⟩, ⟨(X.out.1.below y7 X.out.1.lt).alloc _, (X.out.2.below y7 X.out.2.lt).alloc _, Blk.new _ _ _⟩, balloc (bnext B0 y7) _, by omega, y1.lt⟩
  have HS0 := Lib.hid S0
  have hc1 : c1 ≤ 9223372036854775807 := by unfold maxLen at y4; omega
  clear S0 y1 y2 y4 y5 y6 y7 X B0
  go_wp2_with fail
  with_reducible refine (next_ok w _ (HW.out.below HS0.out.bel) g w1.heap.size c1 0 v0 A1 l' #[.int .i64 0, .int .i64 0, .int .u32 0, .int .u32 0, .int .u32 0, .int .u32 0] 2 HS0.out y3 hc1 (by have := HL.out; omega) (by omega) (by have := HL.out; omega) R0.out).mono ?_
  rintro e u0 ⟨rfl, s0⟩
  replace s0 : RS w g w1.heap.size A1 c1 l' 2 #[.int .i64 0, .int .i64 0, .int .u32 0, .int .u32 0, .int .u32 0, .int .u32 0] u0 := s0
  have d0 := s0.outB.cell 0
  have f0 := s0.outB.frozen 0
  simp only [List.getElem?_toArray, List.getElem?_cons_zero, List.getElem?_cons_succ] at d0
  have t0 := s0.put 0 (.int .i64 v0)
  simp only [List.setIfInBounds_toArray, List.set_cons_zero, List.set_cons_succ] at t0
  have HS1 := Lib.hid t0
  clear s0 t0 HS0
  go_wp2_with fail
  try clear d0 f0
  with_reducible refine (next_ok w _ (HW.out.below HS1.out.bel) g w1.heap.size c1 2 v1 A1 l' #[.int .i64 v0, .int .i64 0, .int .u32 0, .int .u32 0, .int .u32 0, .int .u32 0] 2 HS1.out y3 hc1 (by have := HL.out; omega) (by omega) (by have := HL.out; omega) R1.out).mono ?_
  rintro e u1 ⟨rfl, s1⟩
  replace s1 : RS w g w1.heap.size A1 c1 l' 4 #[.int .i64 v0, .int .i64 0, .int .u32 0, .int .u32 0, .int .u32 0, .int .u32 0] u1 := s1
  have d1 := s1.outB.cell 1
  have f1 := s1.outB.frozen 1
  simp only [List.getElem?_toArray, List.getElem?_cons_zero, List.getElem?_cons_succ] at d1
  have t1 := s1.put 1 (.int .i64 v1)
  simp only [List.setIfInBounds_toArray, List.set_cons_zero, List.set_cons_succ] at t1
  have HS2 := Lib.hid t1
  clear s1 t1 HS1
  go_wp2_with fail
  try clear d1 f1
  with_reducible refine (next_bad w _ (HW.out.below HS2.out.bel) g w1.heap.size c1 4 A1 l' #[.int .i64 v0, .int .i64 v1, .int .u32 0, .int .u32 0, .int .u32 0, .int .u32 0] 4 HS2.out y3 hc1 (by have := HL.out; omega) R2.out).mono ?_
  rintro e ub ⟨rfl, sb⟩
  go_wp2_with fail
  refine leaves_cons (f := 62) (args := #[.pointer (some ⟨w.heap.size, 0, none⟩), .pointer (some ⟨w.heap.size + 1, 0, none⟩)]) (by simp) (by simp [go_sem]) ?_
  with_reducible refine (catch_pan w.heap.size (w.heap.size + 1) (.int .i64 v0) (.int .i64 v1) (.int .u32 0) (.int .u32 0) (.int .u32 0) (.int .u32 0) [] _ sb.outB sb.errB (by omega)).mono ?_
  rintro e u' wz ⟨rfl, rfl, z1, z2, z3⟩
  have d0 := (z1).cell 0
  have d1 := (z1).cell 1
  have d2 := (z1).cell 2
  have d3 := (z1).cell 3
  have d4 := (z1).cell 4
  have d5 := (z1).cell 5
  simp only [List.getElem?_toArray, List.getElem?_cons_zero, List.getElem?_cons_succ] at d0 d1 d2 d3 d4 d5
  have h0 := (z2).cell 0
  simp only [List.getElem?_toArray, List.getElem?_cons_zero, List.getElem?_cons_succ] at h0
  have bz := sb.bel.trans (z3 w.heap.size (Nat.le_refl _) (by omega))
  simp [Leaves, settle, results, Tryd.results47, go_sem, d0, d1, d2, d3, d4, d5, h0]
  exact bz

set_option maxHeartbeats 500000 in
theorem eread_bad3 (l' : List UInt8) (n : Nat) (hlen : l'.length = n) (A : Option Addr) (c : Nat) (w : World) (hw : WidthsAt w) (hrd : Rd w w.heap.size A (l'.map b8)) (hlc : n ≤ c) (hcm : c ≤ 9223372036854775807) (hl1 : 8 ≤ n) (hl2 : n < 12) :
    Calls Tryd.prog 47 #[.slice A n c] w fun e w' => e = .returned (.tuple #[.agg #[.int .i64 0, .int .i64 0, .int .u32 0, .int .u32 0, .int .u32 0, .int .u32 0], .int .i64 130]) ∧ Below w.heap.size w w' := by
  have hl : n < 20 := by omega
  have R0 := Lib.hid (show rdF l' ((0 : Nat) : Int) (2 : Int) = (fld l' 0 2, 0) from rdF_fld l' 0 2 (by omega) (by omega))
  have R1 := Lib.hid (show rdF l' ((2 : Nat) : Int) (2 : Int) = (fld l' 2 2, 0) from rdF_fld l' 2 2 (by omega) (by omega))
  have R2 := Lib.hid (show rdF l' ((4 : Nat) : Int) (4 : Int) = (fld l' 4 4, 0) from rdF_fld l' 4 4 (by omega) (by omega))
  have R3 := Lib.hid (show rdF l' ((8 : Nat) : Int) (4 : Int) = (0, 130) from rdF_ends l' 8 4 (by omega) (by omega))
  have hf0 := fld_lt l' 0 2
  generalize fld l' 0 2 = v0 at *
  have hv0 : IntKind.i64.wrap (v0 : Int) = v0 := IntWalk.i64_in _ ⟨by omega, by omega⟩
  have hf1 := fld_lt l' 2 2
  generalize fld l' 2 2 = v1 at *
  have hv1 : IntKind.i64.wrap (v1 : Int) = v1 := IntWalk.i64_in _ ⟨by omega, by omega⟩
  have hf2 := fld_lt l' 4 4
  generalize fld l' 4 4 = v2 at *
  have HW := Lib.hid hw
  have HL := Lib.hid hlen
  have B0 : Below w.heap.size w ((w.alloc (.cells #[.int .i64 0, .int .i64 0, .int .u32 0, .int .u32 0, .int .u32 0, .int .u32 0] 55)).alloc (.cells #[.int .i64 0] 28)) := balloc (balloc (Below.refl _ _) _) _
  have x0 := (Blk.new w 55 #[.int .i64 0, .int .i64 0, .int .u32 0, .int .u32 0, .int .u32 0, .int .u32 0]).alloc (.cells #[.int .i64 0] 28)
  have x1 := Blk.new (w.alloc (.cells #[.int .i64 0, .int .i64 0, .int .u32 0, .int .u32 0, .int .u32 0, .int .u32 0] 55)) 28 #[.int .i64 0]
  rw [World.size_alloc] at x1
  have X := Lib.hid (And.intro x0 x1)
  clear hw hlen x0 x1
  have hmf : ∀ (fn : Fn) (first cap : Array Value) (w : World), (Instr.makeFunc fn first cap).run Tryd.prog w = .ok (.func fn first cap) w := fun _ _ _ _ => rfl
  have hmn : min (n : Int) 20 = n := by omega
  go_enter_defers Tryd.func47, Tryd.ntmps47
  go_wp2_with fail
  with_reducible refine (new_rs l' _ HL.out _ _ w.heap.size _ (hrd.below B0) (by omega) (by simp; omega)).mono ?_
  rintro e w1 ⟨g, A1, c1, rfl, y1, y2, y3, y4, y5, y6, y7⟩
  simp only [World.size_alloc] at y5 y6
  have S0 : RS w g w1.heap.size A1 c1 l' 0 #[.int .i64 0, .int .i64 0, .int .u32 0, .int .u32 0, .int .u32 0, .int .u32 0] (w1.alloc (.cells #[.pointer (some ⟨g, 0, none⟩)] 104)) :=
    ⟨⟨y1.alloc _, y2.alloc (Nat.le_of_lt y1.lt) _, fun a ha => by have := y5 a ha; omega⟩, ⟨(X.out.1.below y7 X.out.1.lt).alloc _, (X.out.2.below y7 X.out.2.lt).alloc _, Blk.new _ _ _⟩, balloc (bnext B0 y7) _, by omega, y1.lt⟩
  have HS0 := Lib.hid S0
  have hc1 : c1 ≤ 9223372036854775807 := by unfold maxLen at y4; omega
  clear S0 y1 y2 y4 y5 y6 y7 X B0
  go_wp2_with fail
  with_reducible refine (next_ok w _ (HW.out.below HS0.out.bel) g w1.heap.size c1 0 v0 A1 l' #[.int .i64 0, .int .i64 0, .int .u32 0, .int .u32 0, .int .u32 0, .int .u32 0] 2 HS0.out y3 hc1 (by have := HL.out; omega) (by omega) (by have := HL.out; omega) R0.out).mono ?_
  rintro e u0 ⟨rfl, s0⟩
  replace s0 : RS w g w1.heap.size A1 c1 l' 2 #[.int .i64 0, .int .i64 0, .int .u32 0, .int .u32 0, .int .u32 0, .int .u32 0] u0 := s0
  have d0 := s0.outB.cell 0
  have f0 := s0.outB.frozen 0
  simp only [List.getElem?_toArray, List.getElem?_cons_zero, List.getElem?_cons_succ] at d0
  have t0 := s0.put 0 (.int .i64 v0)
  simp only [List.setIfInBounds_toArray, List.set_cons_zero, List.set_cons_succ] at t0
  have HS1 := Lib.hid t0
  clear s0 t0 HS0
  go_wp2_with fail
  try clear d0 f0
  with_reducible refine (next_ok w _ (HW.out.below HS1.out.bel) g w1.heap.size c1 2 v1 A1 l' #[.int .i64 v0, .int .i64 0, .int .u32 0, .int .u32 0, .int .u32 0, .int .u32 0] 2 HS1.out y3 hc1 (by have := HL.out; omega) (by omega) (by have := HL.out; omega) R1.out).mono ?_
  rintro e u1 ⟨rfl, s1⟩
  replace s1 : RS w g w1.heap.size A1 c1 l' 4 #[.int .i64 v0, .int .i64 0, .int .u32 0, .int .u32 0, .int .u32 0, .int .u32 0] u1 := s1
  have d1 := s1.outB.cell 1
  have f1 := s1.outB.frozen 1
  simp only [List.getElem?_toArray, List.getElem?_cons_zero, List.getElem?_cons_succ] at d1
  have t1 := s1.put 1 (.int .i64 v1)
  simp only [List.setIfInBounds_toArray, List.set_cons_zero, List.set_cons_succ] at t1
  have HS2 := Lib.hid t1
  clear s1 t1 HS1
  go_wp2_with fail
  try clear d1 f1
  with_reducible refine (next_ok w _ (HW.out.below HS2.out.bel) g w1.heap.size c1 4 v2 A1 l' #[.int .i64 v0, .int .i64 v1, .int .u32 0, .int .u32 0, .int .u32 0, .int .u32 0] 4 HS2.out y3 hc1 (by have := HL.out; omega) (by omega) (by have := HL.out; omega) R2.out).mono ?_
  rintro e u2 ⟨rfl, s2⟩
  replace s2 : RS w g w1.heap.size A1 c1 l' 8 #[.int .i64 v0, .int .i64 v1, .int .u32 0, .int .u32 0, .int .u32 0, .int .u32 0] u2 := s2
  have d2 := s2.outB.cell 2
  have f2 := s2.outB.frozen 2
  simp only [List.getElem?_toArray, List.getElem?_cons_zero, List.getElem?_cons_succ] at d2
  have t2 := s2.put 2 (.int .u32 v2)
  simp only [List.setIfInBounds_toArray, List.set_cons_zero, List.set_cons_succ] at t2
  have HS3 := Lib.hid t2
  clear s2 t2 HS2
  go_wp2_with fail
  try clear d2 f2
  with_reducible refine (next_bad w _ (HW.out.below HS3.out.bel) g w1.heap.size c1 8 A1 l' #[.int .i64 v0, .int .i64 v1, .int .u32 v2, .int .u32 0, .int .u32 0, .int .u32 0] 4 HS3.out y3 hc1 (by have := HL.out; omega) R3.out).mono ?_
  rintro e ub ⟨rfl, sb⟩
  go_wp2_with fail
  refine leaves_cons (f := 62) (args := #[.pointer (some ⟨w.heap.size, 0, none⟩), .pointer (some ⟨w.heap.size + 1, 0, none⟩)]) (by simp) (by simp [go_sem]) ?_
  with_reducible refine (catch_pan w.heap.size (w.heap.size + 1) (.int .i64 v0) (.int .i64 v1) (.int .u32 v2) (.int .u32 0) (.int .u32 0) (.int .u32 0) [] _ sb.outB sb.errB (by omega)).mono ?_
  rintro e u' wz ⟨rfl, rfl, z1, z2, z3⟩
  have d0 := (z1).cell 0
  have d1 := (z1).cell 1
  have d2 := (z1).cell 2
  have d3 := (z1).cell 3
  have d4 := (z1).cell 4
  have d5 := (z1).cell 5
  simp only [List.getElem?_toArray, List.getElem?_cons_zero, List.getElem?_cons_succ] at d0 d1 d2 d3 d4 d5
  have h0 := (z2).cell 0
  simp only [List.getElem?_toArray, List.getElem?_cons_zero, List.getElem?_cons_succ] at h0
  have bz := sb.bel.trans (z3 w.heap.size (Nat.le_refl _) (by omega))
  simp [Leaves, settle, results, Tryd.results47, go_sem, d0, d1, d2, d3, d4, d5, h0]
  exact bz

set_option maxHeartbeats 500000 in
theorem eread_bad4 (l' : List UInt8) (n : Nat) (hlen : l'.length = n) (A : Option Addr) (c : Nat) (w : World) (hw : WidthsAt w) (hrd : Rd w w.heap.size A (l'.map b8)) (hlc : n ≤ c) (hcm : c ≤ 9223372036854775807) (hl1 : 12 ≤ n) (hl2 : n < 16) :
    Calls Tryd.prog 47 #[.slice A n c] w fun e w' => e = .returned (.tuple #[.agg #[.int .i64 0, .int .i64 0, .int .u32 0, .int .u32 0, .int .u32 0, .int .u32 0], .int .i64 130]) ∧ Below w.heap.size w w' := by
  have hl : n < 20 := by omega
  have R0 := Lib.hid (show rdF l' ((0 : Nat) : Int) (2 : Int) = (fld l' 0 2, 0) from rdF_fld l' 0 2 (by omega) (by omega))
  have R1 := Lib.hid (show rdF l' ((2 : Nat) : Int) (2 : Int) = (fld l' 2 2, 0) from rdF_fld l' 2 2 (by omega) (by omega))
  have R2 := Lib.hid (show rdF l' ((4 : Nat) : Int) (4 : Int) = (fld l' 4 4, 0) from rdF_fld l' 4 4 (by omega) (by omega))
  have R3 := Lib.hid (show rdF l' ((8 : Nat) : Int) (4 : Int) = (fld l' 8 4, 0) from rdF_fld l' 8 4 (by omega) (by omega))
  have R4 := Lib.hid (show rdF l' ((12 : Nat) : Int) (4 : Int) = (0, 130) from rdF_ends l' 12 4 (by omega) (by omega))
  have hf0 := fld_lt l' 0 2
  generalize fld l' 0 2 = v0 at *
  have hv0 : IntKind.i64.wrap (v0 : Int) = v0 := IntWalk.i64_in _ ⟨by omega, by omega⟩
  have hf1 := fld_lt l' 2 2
  generalize fld l' 2 2 = v1 at *
  have hv1 : IntKind.i64.wrap (v1 : Int) = v1 := IntWalk.i64_in _ ⟨by omega, by omega⟩
  have hf2 := fld_lt l' 4 4
  generalize fld l' 4 4 = v2 at *
  have hf3 := fld_lt l' 8 4
  generalize fld l' 8 4 = v3 at *
  have HW := Lib.hid hw
  have HL := Lib.hid hlen
  have B0 : Below w.heap.size w ((w.alloc (.cells #[.int .i64 0, .int .i64 0, .int .u32 0, .int .u32 0, .int .u32 0, .int .u32 0] 55)).alloc (.cells #[.int .i64 0] 28)) := balloc (balloc (Below.refl _ _) _) _
  have x0 := (Blk.new w 55 #[.int .i64 0, .int .i64 0, .int .u32 0, .int .u32 0, .int .u32 0, .int .u32 0]).alloc (.cells #[.int .i64 0] 28)
  have x1 := Blk.new (w.alloc (.cells #[.int .i64 0, .int .i64 0, .int .u32 0, .int .u32 0, .int .u32 0, .int .u32 0] 55)) 28 #[.int .i64 0]
  rw [World.size_alloc] at x1
  have X := Lib.hid (And.intro x0 x1)
  clear hw hlen x0 x1
  have hmf : ∀ (fn : Fn) (first cap : Array Value) (w : World), (Instr.makeFunc fn first cap).run Tryd.prog w = .ok (.func fn first cap) w := fun _ _ _ _ => rfl
  have hmn : min (n : Int) 20 = n := by omega
  go_enter_defers Tryd.func47, Tryd.ntmps47
  go_wp2_with fail
  with_reducible refine (new_rs l' _ HL.out _ _ w.heap.size _ (hrd.below B0) (by omega) (by simp; omega)).mono ?_
  rintro e w1 ⟨g, A1, c1, rfl, y1, y2, y3, y4, y5, y6, y7⟩
  simp only [World.size_alloc] at y5 y6
  have S0 : RS w g w1.heap.size A1 c1 l' 0 #[.int .i64 0, .int .i64 0, .int .u32 0, .int .u32 0, .int .u32 0, .int .u32 0] (w1.alloc (.cells #[.pointer (some ⟨g, 0, none⟩)] 104)) :=
    ⟨⟨y1.alloc _, y2.alloc (Nat.le_of_lt y1.lt) _, fun a ha => by have := y5 a ha; omega⟩, ⟨(X.out.1.below y7 X.out.1.lt).alloc _, (X.out.2.below y7 X.out.2.lt).alloc _, Blk.new _ _ _⟩, balloc (bnext B0 y7) _, by omega, y1.lt⟩
  have HS0 := Lib.hid S0
  have hc1 : c1 ≤ 9223372036854775807 := by unfold maxLen at y4; omega
  clear S0 y1 y2 y4 y5 y6 y7 X B0
  go_wp2_with fail
  with_reducible refine (next_ok w _ (HW.out.below HS0.out.bel) g w1.heap.size c1 0 v0 A1 l' #[.int .i64 0, .int .i64 0, .int .u32 0, .int .u32 0, .int .u32 0, .int .u32 0] 2 HS0.out y3 hc1 (by have := HL.out; omega) (by omega) (by have := HL.out; omega) R0.out).mono ?_
  rintro e u0 ⟨rfl, s0⟩
  replace s0 : RS w g w1.heap.size A1 c1 l' 2 #[.int .i64 0, .int .i64 0, .int .u32 0, .int .u32 0, .int .u32 0, .int .u32 0] u0 := s0
  have d0 := s0.outB.cell 0
  have f0 := s0.outB.frozen 0
  simp only [List.getElem?_toArray, List.getElem?_cons_zero, List.getElem?_cons_succ] at d0
  have t0 := s0.put 0 (.int .i64 v0)
  simp only [List.setIfInBounds_toArray, List.set_cons_zero, List.set_cons_succ] at t0
  have HS1 := Lib.hid t0
  clear s0 t0 HS0
  go_wp2_with fail
  try clear d0 f0
  with_reducible refine (next_ok w _ (HW.out.below HS1.out.bel) g w1.heap.size c1 2 v1 A1 l' #[.int .i64 v0, .int .i64 0, .int .u32 0, .int .u32 0, .int .u32 0, .int .u32 0] 2 HS1.out y3 hc1 (by have := HL.out; omega) (by omega) (by have := HL.out; omega) R1.out).mono ?_
  rintro e u1 ⟨rfl, s1⟩
  replace s1 : RS w g w1.heap.size A1 c1 l' 4 #[.int .i64 v0, .int .i64 0, .int .u32 0, .int .u32 0, .int .u32 0, .int .u32 0] u1 := s1
  have d1 := s1.outB.cell 1
  have f1 := s1.outB.frozen 1
  simp only [List.getElem?_toArray, List.getElem?_cons_zero, List.getElem?_cons_succ] at d1
  have t1 := s1.put 1 (.int .i64 v1)
  simp only [List.setIfInBounds_toArray, List.set_cons_zero, List.set_cons_succ] at t1
  have HS2 := Lib.hid t1
  clear s1 t1 HS1
  go_wp2_with fail
  try clear d1 f1
  with_reducible refine (next_ok w _ (HW.out.below HS2.out.bel) g w1.heap.size c1 4 v2 A1 l' #[.int .i64 v0, .int .i64 v1, .int .u32 0, .int .u32 0, .int .u32 0, .int .u32 0] 4 HS2.out y3 hc1 (by have := HL.out; omega) (by omega) (by have := HL.out; omega) R2.out).mono ?_
  rintro e u2 ⟨rfl, s2⟩
  replace s2 : RS w g w1.heap.size A1 c1 l' 8 #[.int .i64 v0, .int .i64 v1, .int .u32 0, .int .u32 0, .int .u32 0, .int .u32 0] u2 := s2
  have d2 := s2.outB.cell 2
  have f2 := s2.outB.frozen 2
  simp only [List.getElem?_toArray, List.getElem?_cons_zero, List.getElem?_cons_succ] at d2
  have t2 := s2.put 2 (.int .u32 v2)
  simp only [List.setIfInBounds_toArray, List.set_cons_zero, List.set_cons_succ] at t2
  have HS3 := Lib.hid t2
  clear s2 t2 HS2
  go_wp2_with fail
  try clear d2 f2
  with_reducible refine (next_ok w _ (HW.out.below HS3.out.bel) g w1.heap.size c1 8 v3 A1 l' #[.int .i64 v0, .int .i64 v1, .int .u32 v2, .int .u32 0, .int .u32 0, .int .u32 0] 4 HS3.out y3 hc1 (by have := HL.out; omega) (by omega) (by have := HL.out; omega) R3.out).mono ?_
  rintro e u3 ⟨rfl, s3⟩
  replace s3 : RS w g w1.heap.size A1 c1 l' 12 #[.int .i64 v0, .int .i64 v1, .int .u32 v2, .int .u32 0, .int .u32 0, .int .u32 0] u3 := s3
  have d3 := s3.outB.cell 3
  have f3 := s3.outB.frozen 3
  simp only [List.getElem?_toArray, List.getElem?_cons_zero, List.getElem?_cons_succ] at d3
  have t3 := s3.put 3 (.int .u32 v3)
  simp only [List.setIfInBounds_toArray, List.set_cons_zero, List.set_cons_succ] at t3
  have HS4 := Lib.hid t3
  clear s3 t3 HS3
  go_wp2_with fail
  try clear d3 f3
  with_reducible refine (next_bad w _ (HW.out.below HS4.out.bel) g w1.heap.size c1 12 A1 l' #[.int .i64 v0, .int .i64 v1, .int .u32 v2, .int .u32 v3, .int .u32 0, .int .u32 0] 4 HS4.out y3 hc1 (by have := HL.out; omega) R4.out).mono ?_
  rintro e ub ⟨rfl, sb⟩
  go_wp2_with fail
  refine leaves_cons (f := 62) (args := #[.pointer (some ⟨w.heap.size, 0, none⟩), .pointer (some ⟨w.heap.size + 1, 0, none⟩)]) (by simp) (by simp [go_sem]) ?_
  with_reducible refine (catch_pan w.heap.size (w.heap.size + 1) (.int .i64 v0) (.int .i64 v1) (.int .u32 v2) (.int .u32 v3) (.int .u32 0) (.int .u32 0) [] _ sb.outB sb.errB (by omega)).mono ?_
  rintro e u' wz ⟨rfl, rfl, z1, z2, z3⟩
  have d0 := (z1).cell 0
  have d1 := (z1).cell 1
  have d2 := (z1).cell 2
  have d3 := (z1).cell 3
  have d4 := (z1).cell 4
  have d5 := (z1).cell 5
  simp only [List.getElem?_toArray, List.getElem?_cons_zero, List.getElem?_cons_succ] at d0 d1 d2 d3 d4 d5
  have h0 := (z2).cell 0
  simp only [List.getElem?_toArray, List.getElem?_cons_zero, List.getElem?_cons_succ] at h0
  have bz := sb.bel.trans (z3 w.heap.size (Nat.le_refl _) (by omega))
  simp [Leaves, settle, results, Tryd.results47, go_sem, d0, d1, d2, d3, d4, d5, h0]
  exact bz

set_option maxHeartbeats 500000 in
theorem eread_bad5 (l' : List UInt8) (n : Nat) (hlen : l'.length = n) (A : Option Addr) (c : Nat) (w : World) (hw : WidthsAt w) (hrd : Rd w w.heap.size A (l'.map b8)) (hlc : n ≤ c) (hcm : c ≤ 9223372036854775807) (hl1 : 16 ≤ n) (hl2 : n < 20) :
    Calls Tryd.prog 47 #[.slice A n c] w fun e w' => e = .returned (.tuple #[.agg #[.int .i64 0, .int .i64 0, .int .u32 0, .int .u32 0, .int .u32 0, .int .u32 0], .int .i64 130]) ∧ Below w.heap.size w w' := by
  have hl : n < 20 := by omega
  have R0 := Lib.hid (show rdF l' ((0 : Nat) : Int) (2 : Int) = (fld l' 0 2, 0) from rdF_fld l' 0 2 (by omega) (by omega))
  have R1 := Lib.hid (show rdF l' ((2 : Nat) : Int) (2 : Int) = (fld l' 2 2, 0) from rdF_fld l' 2 2 (by omega) (by omega))
  have R2 := Lib.hid (show rdF l' ((4 : Nat) : Int) (4 : Int) = (fld l' 4 4, 0) from rdF_fld l' 4 4 (by omega) (by omega))
  have R3 := Lib.hid (show rdF l' ((8 : Nat) : Int) (4 : Int) = (fld l' 8 4, 0) from rdF_fld l' 8 4 (by omega) (by omega))
  have R4 := Lib.hid (show rdF l' ((12 : Nat) : Int) (4 : Int) = (fld l' 12 4, 0) from rdF_fld l' 12 4 (by omega) (by omega))
  have R5 := Lib.hid (show rdF l' ((16 : Nat) : Int) (4 : Int) = (0, 130) from rdF_ends l' 16 4 (by omega) (by omega))
  have hf0 := fld_lt l' 0 2
  generalize fld l' 0 2 = v0 at *
  have hv0 : IntKind.i64.wrap (v0 : Int) = v0 := IntWalk.i64_in _ ⟨by omega, by omega⟩
  have hf1 := fld_lt l' 2 2
  generalize fld l' 2 2 = v1 at *
  have hv1 : IntKind.i64.wrap (v1 : Int) = v1 := IntWalk.i64_in _ ⟨by omega, by omega⟩
  have hf2 := fld_lt l' 4 4
  generalize fld l' 4 4 = v2 at *
  have hf3 := fld_lt l' 8 4
  generalize fld l' 8 4 = v3 at *
  have hf4 := fld_lt l' 12 4
  generalize fld l' 12 4 = v4 at *
  have HW := Lib.hid hw
  have HL := Lib.hid hlen
  have B0 : Below w.heap.size w ((w.alloc (.cells #[.int .i64 0, .int .i64 0, .int .u32 0, .int .u32 0, .int .u32 0, .int .u32 0] 55)).alloc (.cells #[.int .i64 0] 28)) := balloc (balloc (Below.refl _ _) _) _
  have x0 := (Blk.new w 55 #[.int .i64 0, .int .i64 0, .int .u32 0, .int .u32 0, .int .u32 0, .int .u32 0]).alloc (.cells #[.int .i64 0] 28)
  have x1 := Blk.new (w.alloc (.cells #[.int .i64 0, .int .i64 0, .int .u32 0, .int .u32 0, .int .u32 0, .int .u32 0] 55)) 28 #[.int .i64 0]
  rw [World.size_alloc] at x1
  have X := Lib.hid (And.intro x0 x1)
  clear hw hlen x0 x1
  have hmf : ∀ (fn : Fn) (first cap : Array Value) (w : World), (Instr.makeFunc fn first cap).run Tryd.prog w = .ok (.func fn first cap) w := fun _ _ _ _ => rfl
  have hmn : min (n : Int) 20 = n := by omega
  go_enter_defers Tryd.func47, Tryd.ntmps47
  go_wp2_with fail
  with_reducible refine (new_rs l' _ HL.out _ _ w.heap.size _ (hrd.below B0) (by omega) (by simp; omega)).mono ?_
  rintro e w1 ⟨g, A1, c1, rfl, y1, y2, y3, y4, y5, y6, y7⟩
  simp only [World.size_alloc] at y5 y6
  have S0 : RS w g w1.heap.size A1 c1 l' 0 #[.int .i64 0, .int .i64 0, .int .u32 0, .int .u32 0, .int .u32 0, .int .u32 0] (w1.alloc (.cells #[.pointer (some ⟨g, 0, none⟩)] 104)) :=
    ⟨⟨y1.alloc _, y2.alloc (Nat.le_of_lt y1.lt) _, fun a ha => by have := y5 a ha; omega⟩, ⟨(X.out.1.below y7 X.out.1.lt).alloc _, (X.out.2.below y7 X.out.2.lt).alloc _, Blk.new _ _ _⟩, balloc (bnext B0 y7) _, by omega, y1.lt⟩
  have HS0 := Lib.hid S0
  have hc1 : c1 ≤ 9223372036854775807 := by unfold maxLen at y4; omega
  clear S0 y1 y2 y4 y5 y6 y7 X B0
  go_wp2_with fail
  with_reducible refine (next_ok w _ (HW.out.below HS0.out.bel) g w1.heap.size c1 0 v0 A1 l' #[.int .i64 0, .int .i64 0, .int .u32 0, .int .u32 0, .int .u32 0, .int .u32 0] 2 HS0.out y3 hc1 (by have := HL.out; omega) (by omega) (by have := HL.out; omega) R0.out).mono ?_
  rintro e u0 ⟨rfl, s0⟩
  replace s0 : RS w g w1.heap.size A1 c1 l' 2 #[.int .i64 0, .int .i64 0, .int .u32 0, .int .u32 0, .int .u32 0, .int .u32 0] u0 := s0
  have d0 := s0.outB.cell 0
  have f0 := s0.outB.frozen 0
  simp only [List.getElem?_toArray, List.getElem?_cons_zero, List.getElem?_cons_succ] at d0
  have t0 := s0.put 0 (.int .i64 v0)
  simp only [List.setIfInBounds_toArray, List.set_cons_zero, List.set_cons_succ] at t0
  have HS1 := Lib.hid t0
  clear s0 t0 HS0
  go_wp2_with fail
  try clear d0 f0
  with_reducible refine (next_ok w _ (HW.out.below HS1.out.bel) g w1.heap.size c1 2 v1 A1 l' #[.int .i64 v0, .int .i64 0, .int .u32 0, .int .u32 0, .int .u32 0, .int .u32 0] 2 HS1.out y3 hc1 (by have := HL.out; omega) (by omega) (by have := HL.out; omega) R1.out).mono ?_
  rintro e u1 ⟨rfl, s1⟩
  replace s1 : RS w g w1.heap.size A1 c1 l' 4 #[.int .i64 v0, .int .i64 0, .int .u32 0, .int .u32 0, .int .u32 0, .int .u32 0] u1 := s1
  have d1 := s1.outB.cell 1
  have f1 := s1.outB.frozen 1
  simp only [List.getElem?_toArray, List.getElem?_cons_zero, List.getElem?_cons_succ] at d1
  have t1 := s1.put 1 (.int .i64 v1)
  simp only [List.setIfInBounds_toArray, List.set_cons_zero, List.set_cons_succ] at t1
  have HS2 := Lib.hid t1
  clear s1 t1 HS1
  go_wp2_with fail
  try clear d1 f1
  with_reducible refine (next_ok w _ (HW.out.below HS2.out.bel) g w1.heap.size c1 4 v2 A1 l' #[.int .i64 v0, .int .i64 v1, .int .u32 0, .int .u32 0, .int .u32 0, .int .u32 0] 4 HS2.out y3 hc1 (by have := HL.out; omega) (by omega) (by have := HL.out; omega) R2.out).mono ?_
  rintro e u2 ⟨rfl, s2⟩
  replace s2 : RS w g w1.heap.size A1 c1 l' 8 #[.int .i64 v0, .int .i64 v1, .int .u32 0, .int .u32 0, .int .u32 0, .int .u32 0] u2 := s2
  have d2 := s2.outB.cell 2
  have f2 := s2.outB.frozen 2
  simp only [List.getElem?_toArray, List.getElem?_cons_zero, List.getElem?_cons_succ] at d2
  have t2 := s2.put 2 (.int .u32 v2)
  simp only [List.setIfInBounds_toArray, List.set_cons_zero, List.set_cons_succ] at t2
  have HS3 := Lib.hid t2
  clear s2 t2 HS2
  go_wp2_with fail
  try clear d2 f2
  with_reducible refine (next_ok w _ (HW.out.below HS3.out.bel) g w1.heap.size c1 8 v3 A1 l' #[.int .i64 v0, .int .i64 v1, .int .u32 v2, .int .u32 0, .int .u32 0, .int .u32 0] 4 HS3.out y3 hc1 (by have := HL.out; omega) (by omega) (by have := HL.out; omega) R3.out).mono ?_
  rintro e u3 ⟨rfl, s3⟩
  replace s3 : RS w g w1.heap.size A1 c1 l' 12 #[.int .i64 v0, .int .i64 v1, .int .u32 v2, .int .u32 0, .int .u32 0, .int .u32 0] u3 := s3
  have d3 := s3.outB.cell 3
  have f3 := s3.outB.frozen 3
  simp only [List.getElem?_toArray, List.getElem?_cons_zero, List.getElem?_cons_succ] at d3
  have t3 := s3.put 3 (.int .u32 v3)
  simp only [List.setIfInBounds_toArray, List.set_cons_zero, List.set_cons_succ] at t3
  have HS4 := Lib.hid t3
  clear s3 t3 HS3
  go_wp2_with fail
  try clear d3 f3
  with_reducible refine (next_ok w _ (HW.out.below HS4.out.bel) g w1.heap.size c1 12 v4 A1 l' #[.int .i64 v0, .int .i64 v1, .int .u32 v2, .int .u32 v3, .int .u32 0, .int .u32 0] 4 HS4.out y3 hc1 (by have := HL.out; omega) (by omega) (by have := HL.out; omega) R4.out).mono ?_
  rintro e u4 ⟨rfl, s4⟩
  replace s4 : RS w g w1.heap.size A1 c1 l' 16 #[.int .i64 v0, .int .i64 v1, .int .u32 v2, .int .u32 v3, .int .u32 0, .int .u32 0] u4 := s4
  have d4 := s4.outB.cell 4
  have f4 := s4.outB.frozen 4
  simp only [List.getElem?_toArray, List.getElem?_cons_zero, List.getElem?_cons_succ] at d4
  have t4 := s4.put 4 (.int .u32 v4)
  simp only [List.setIfInBounds_toArray, List.set_cons_zero, List.set_cons_succ] at t4
  have HS5 := Lib.hid t4
  clear s4 t4 HS4
  go_wp2_with fail
  try clear d4 f4
  with_reducible refine (next_bad w _ (HW.out.below HS5.out.bel) g w1.heap.size c1 16 A1 l' #[.int .i64 v0, .int .i64 v1, .int .u32 v2, .int .u32 v3, .int .u32 v4, .int .u32 0] 4 HS5.out y3 hc1 (by have := HL.out; omega) R5.out).mono ?_
  rintro e ub ⟨rfl, sb⟩
  go_wp2_with fail
  refine leaves_cons (f := 62) (args := #[.pointer (some ⟨w.heap.size, 0, none⟩), .pointer (some ⟨w.heap.size + 1, 0, none⟩)]) (by simp) (by simp [go_sem]) ?_
  with_reducible refine (catch_pan w.heap.size (w.heap.size + 1) (.int .i64 v0) (.int .i64 v1) (.int .u32 v2) (.int .u32 v3) (.int .u32 v4) (.int .u32 0) [] _ sb.outB sb.errB (by omega)).mono ?_
  rintro e u' wz ⟨rfl, rfl, z1, z2, z3⟩
  have d0 := (z1).cell 0
  have d1 := (z1).cell 1
  have d2 := (z1).cell 2
  have d3 := (z1).cell 3
  have d4 := (z1).cell 4
  have d5 := (z1).cell 5
  simp only [List.getElem?_toArray, List.getElem?_cons_zero, List.getElem?_cons_succ] at d0 d1 d2 d3 d4 d5
  have h0 := (z2).cell 0
  simp only [List.getElem?_toArray, List.getElem?_cons_zero, List.getElem?_cons_succ] at h0
  have bz := sb.bel.trans (z3 w.heap.size (Nat.le_refl _) (by omega))
  simp [Leaves, settle, results, Tryd.results47, go_sem, d0, d1, d2, d3, d4, d5, h0]
  exact bz

set_option maxHeartbeats 500000 in
theorem eread_ok (l : List UInt8) (A : Option Addr) (c : Nat) (w : World) (hw : WidthsAt w) (hr : Rd w w.heap.size A (l.map b8)) (hlc : l.length ≤ c) (hcm : c ≤ 9223372036854775807) (hl : 20 ≤ l.length) :
    Calls Tryd.prog 47 #[.slice A l.length c] w fun e w' => e = .returned (.tuple #[readE l, .int .i64 0]) ∧ Below w.heap.size w w' := by
  have hE : readE l = readE (l.take 20) := by unfold readE; rw [fld_take l 20 0 2 (by omega), fld_take l 20 2 2 (by omega), fld_take l 20 4 4 (by omega), fld_take l 20 8 4 (by omega), fld_take l 20 12 4 (by omega), fld_take l 20 16 4 (by omega)]
  rw [hE]
  have hrd : Rd w w.heap.size A ((l.take 20).map b8) := by
    have h := hr
    rw [← List.take_append_drop 20 l, List.map_append] at h
    exact h.pre
  have hlen : (l.take 20).length = 20 := by simp; omega
  clear hE hr
  generalize hgl : l.length = n at *
  clear hgl
  generalize l.take 20 = l' at *
  have R0 := Lib.hid (show rdF l' ((0 : Nat) : Int) (2 : Int) = (fld l' 0 2, 0) from rdF_fld l' 0 2 (by omega) (by omega))
  have R1 := Lib.hid (show rdF l' ((2 : Nat) : Int) (2 : Int) = (fld l' 2 2, 0) from rdF_fld l' 2 2 (by omega) (by omega))
  have R2 := Lib.hid (show rdF l' ((4 : Nat) : Int) (4 : Int) = (fld l' 4 4, 0) from rdF_fld l' 4 4 (by omega) (by omega))
  have R3 := Lib.hid (show rdF l' ((8 : Nat) : Int) (4 : Int) = (fld l' 8 4, 0) from rdF_fld l' 8 4 (by omega) (by omega))
  have R4 := Lib.hid (show rdF l' ((12 : Nat) : Int) (4 : Int) = (fld l' 12 4, 0) from rdF_fld l' 12 4 (by omega) (by omega))
  have R5 := Lib.hid (show rdF l' ((16 : Nat) : Int) (4 : Int) = (fld l' 16 4, 0) from rdF_fld l' 16 4 (by omega) (by omega))
  unfold readE
  have hf0 := fld_lt l' 0 2
  generalize fld l' 0 2 = v0 at *
  have hv0 : IntKind.i64.wrap (v0 : Int) = v0 := IntWalk.i64_in _ ⟨by omega, by omega⟩
  have hf1 := fld_lt l' 2 2
  generalize fld l' 2 2 = v1 at *
  have hv1 : IntKind.i64.wrap (v1 : Int) = v1 := IntWalk.i64_in _ ⟨by omega, by omega⟩
  have hf2 := fld_lt l' 4 4
  generalize fld l' 4 4 = v2 at *
  have hf3 := fld_lt l' 8 4
  generalize fld l' 8 4 = v3 at *
  have hf4 := fld_lt l' 12 4
  generalize fld l' 12 4 = v4 at *
  have hf5 := fld_lt l' 16 4
  generalize fld l' 16 4 = v5 at *
  have HW := Lib.hid hw
  have HL := Lib.hid hlen
  have B0 : Below w.heap.size w ((w.alloc (.cells #[.int .i64 0, .int .i64 0, .int .u32 0, .int .u32 0, .int .u32 0, .int .u32 0] 55)).alloc (.cells #[.int .i64 0] 28)) := balloc (balloc (Below.refl _ _) _) _
  have x0 := (Blk.new w 55 #[.int .i64 0, .int .i64 0, .int .u32 0, .int .u32 0, .int .u32 0, .int .u32 0]).alloc (.cells #[.int .i64 0] 28)
  have x1 := Blk.new (w.alloc (.cells #[.int .i64 0, .int .i64 0, .int .u32 0, .int .u32 0, .int .u32 0, .int .u32 0] 55)) 28 #[.int .i64 0]
  rw [World.size_alloc] at x1
  have X := Lib.hid (And.intro x0 x1)
  clear hw hlen x0 x1
  have hmf : ∀ (fn : Fn) (first cap : Array Value) (w : World), (Instr.makeFunc fn first cap).run Tryd.prog w = .ok (.func fn first cap) w := fun _ _ _ _ => rfl
  have hmn : min (n : Int) 20 = 20 := by omega
  go_enter_defers Tryd.func47, Tryd.ntmps47
  go_wp2_with fail
  with_reducible refine (new_rs l' _ HL.out _ _ w.heap.size _ (hrd.below B0) (by omega) (by simp; omega)).mono ?_
  rintro e w1 ⟨g, A1, c1, rfl, y1, y2, y3, y4, y5, y6, y7⟩
  simp only [World.size_alloc] at y5 y6
  have S0 : RS w g w1.heap.size A1 c1 l' 0 #[.int .i64 0, .int .i64 0, .int .u32 0, .int .u32 0, .int .u32 0, .int .u32 0] (w1.alloc (.cells #[.pointer (some ⟨g, 0, none⟩)] 104)) :=
    ⟨⟨y1.alloc _, y2.alloc (Nat.le_of_lt y1.lt) _, fun a ha => by have := y5 a ha; omega⟩, ⟨(X.out.1.below y7 X.out.1.lt).alloc _, (X.out.2.below y7 X.out.2.lt).alloc _, Blk.new _ _ _⟩, balloc (bnext B0 y7) _, by omega, y1.lt⟩
  have HS0 := Lib.hid S0
  have hc1 : c1 ≤ 9223372036854775807 := by unfold maxLen at y4; omega
  clear S0 y1 y2 y4 y5 y6 y7 X B0
  go_wp2_with fail
  with_reducible refine (next_ok w _ (HW.out.below HS0.out.bel) g w1.heap.size c1 0 v0 A1 l' #[.int .i64 0, .int .i64 0, .int .u32 0, .int .u32 0, .int .u32 0, .int .u32 0] 2 HS0.out y3 hc1 (by have := HL.out; omega) (by omega) (by have := HL.out; omega) R0.out).mono ?_
  rintro e u0 ⟨rfl, s0⟩
  replace s0 : RS w g w1.heap.size A1 c1 l' 2 #[.int .i64 0, .int .i64 0, .int .u32 0, .int .u32 0, .int .u32 0, .int .u32 0] u0 := s0
  have d0 := s0.outB.cell 0
  have f0 := s0.outB.frozen 0
  simp only [List.getElem?_toArray, List.getElem?_cons_zero, List.getElem?_cons_succ] at d0
  have t0 := s0.put 0 (.int .i64 v0)
  simp only [List.setIfInBounds_toArray, List.set_cons_zero, List.set_cons_succ] at t0
  have HS1 := Lib.hid t0
  clear s0 t0 HS0
  go_wp2_with fail
  try clear d0 f0
  with_reducible refine (next_ok w _ (HW.out.below HS1.out.bel) g w1.heap.size c1 2 v1 A1 l' #[.int .i64 v0, .int .i64 0, .int .u32 0, .int .u32 0, .int .u32 0, .int .u32 0] 2 HS1.out y3 hc1 (by have := HL.out; omega) (by omega) (by have := HL.out; omega) R1.out).mono ?_
  rintro e u1 ⟨rfl, s1⟩
  replace s1 : RS w g w1.heap.size A1 c1 l' 4 #[.int .i64 v0, .int .i64 0, .int .u32 0, .int .u32 0, .int .u32 0, .int .u32 0] u1 := s1
  have d1 := s1.outB.cell 1
  have f1 := s1.outB.frozen 1
  simp only [List.getElem?_toArray, List.getElem?_cons_zero, List.getElem?_cons_succ] at d1
  have t1 := s1.put 1 (.int .i64 v1)
  simp only [List.setIfInBounds_toArray, List.set_cons_zero, List.set_cons_succ] at t1
  have HS2 := Lib.hid t1
  clear s1 t1 HS1
  go_wp2_with fail
  try clear d1 f1
  with_reducible refine (next_ok w _ (HW.out.below HS2.out.bel) g w1.heap.size c1 4 v2 A1 l' #[.int .i64 v0, .int .i64 v1, .int .u32 0, .int .u32 0, .int .u32 0, .int .u32 0] 4 HS2.out y3 hc1 (by have := HL.out; omega) (by omega) (by have := HL.out; omega) R2.out).mono ?_
  rintro e u2 ⟨rfl, s2⟩
  replace s2 : RS w g w1.heap.size A1 c1 l' 8 #[.int .i64 v0, .int .i64 v1, .int .u32 0, .int .u32 0, .int .u32 0, .int .u32 0] u2 := s2
  have d2 := s2.outB.cell 2
  have f2 := s2.outB.frozen 2
  simp only [List.getElem?_toArray, List.getElem?_cons_zero, List.getElem?_cons_succ] at d2
  have t2 := s2.put 2 (.int .u32 v2)
  simp only [List.setIfInBounds_toArray, List.set_cons_zero, List.set_cons_succ] at t2
  have HS3 := Lib.hid t2
  clear s2 t2 HS2
  go_wp2_with fail
  try clear d2 f2
  with_reducible refine (next_ok w _ (HW.out.below HS3.out.bel) g w1.heap.size c1 8 v3 A1 l' #[.int .i64 v0, .int .i64 v1, .int .u32 v2, .int .u32 0, .int .u32 0, .int .u32 0] 4 HS3.out y3 hc1 (by have := HL.out; omega) (by omega) (by have := HL.out; omega) R3.out).mono ?_
  rintro e u3 ⟨rfl, s3⟩
  replace s3 : RS w g w1.heap.size A1 c1 l' 12 #[.int .i64 v0, .int .i64 v1, .int .u32 v2, .int .u32 0, .int .u32 0, .int .u32 0] u3 := s3
  have d3 := s3.outB.cell 3
  have f3 := s3.outB.frozen 3
  simp only [List.getElem?_toArray, List.getElem?_cons_zero, List.getElem?_cons_succ] at d3
  have t3 := s3.put 3 (.int .u32 v3)
  simp only [List.setIfInBounds_toArray, List.set_cons_zero, List.set_cons_succ] at t3
  have HS4 := Lib.hid t3
  clear s3 t3 HS3
  go_wp2_with fail
  try clear d3 f3
  with_reducible refine (next_ok w _ (HW.out.below HS4.out.bel) g w1.heap.size c1 12 v4 A1 l' #[.int .i64 v0, .int .i64 v1, .int .u32 v2, .int .u32 v3, .int .u32 0, .int .u32 0] 4 HS4.out y3 hc1 (by have := HL.out; omega) (by omega) (by have := HL.out; omega) R4.out).mono ?_
  rintro e u4 ⟨rfl, s4⟩
  replace s4 : RS w g w1.heap.size A1 c1 l' 16 #[.int .i64 v0, .int .i64 v1, .int .u32 v2, .int .u32 v3, .int .u32 0, .int .u32 0] u4 := s4
  have d4 := s4.outB.cell 4
  have f4 := s4.outB.frozen 4
  simp only [List.getElem?_toArray, List.getElem?_cons_zero, List.getElem?_cons_succ] at d4
  have t4 := s4.put 4 (.int .u32 v4)
  simp only [List.setIfInBounds_toArray, List.set_cons_zero, List.set_cons_succ] at t4
  have HS5 := Lib.hid t4
  clear s4 t4 HS4
  go_wp2_with fail
  try clear d4 f4
  with_reducible refine (next_ok w _ (HW.out.below HS5.out.bel) g w1.heap.size c1 16 v5 A1 l' #[.int .i64 v0, .int .i64 v1, .int .u32 v2, .int .u32 v3, .int .u32 v4, .int .u32 0] 4 HS5.out y3 hc1 (by have := HL.out; omega) (by omega) (by have := HL.out; omega) R5.out).mono ?_
  rintro e u5 ⟨rfl, s5⟩
  replace s5 : RS w g w1.heap.size A1 c1 l' 20 #[.int .i64 v0, .int .i64 v1, .int .u32 v2, .int .u32 v3, .int .u32 v4, .int .u32 0] u5 := s5
  have d5 := s5.outB.cell 5
  have f5 := s5.outB.frozen 5
  simp only [List.getElem?_toArray, List.getElem?_cons_zero, List.getElem?_cons_succ] at d5
  have t5 := s5.put 5 (.int .u32 v5)
  simp only [List.setIfInBounds_toArray, List.set_cons_zero, List.set_cons_succ] at t5
  have HS6 := Lib.hid t5
  have c0 := (s5.outB).cell 0
  have c1 := (s5.outB).cell 1
  have c2 := (s5.outB).cell 2
  have c3 := (s5.outB).cell 3
  have c4 := (s5.outB).cell 4
  have c5 := (s5.outB).cell 5
  simp only [List.getElem?_toArray, List.getElem?_cons_zero, List.getElem?_cons_succ] at c0 c1 c2 c3 c4 c5
  have ce0 := (s5.errB).cell 0
  simp only [List.getElem?_toArray, List.getElem?_cons_zero, List.getElem?_cons_succ] at ce0
  have fr0 := s5.outB.frozen 0
  have fr1 := s5.outB.frozen 1
  have fr2 := s5.outB.frozen 2
  have fr3 := s5.outB.frozen 3
  have fr4 := s5.outB.frozen 4
  have fr5 := s5.outB.frozen 5
  have fe := s5.errB.frozen 0
  clear d5 f5
  clear s5 t5 HS5
  have z := HS6.out.outB
  have z' := HS6.out.errB
  go_wp2_with fail
  have zz := ((((((HS6.out.put 0 (.int .i64 v0)).put 1 (.int .i64 v1)).put 2 (.int .u32 v2)).put 3 (.int .u32 v3)).put 4 (.int .u32 v4)).put 5 (.int .u32 v5))
  simp only [List.setIfInBounds_toArray, List.set_cons_zero, List.set_cons_succ] at zz
  have zf := zz.outB.far (p := ⟨w.heap.size + 1, 0, none⟩) (by show w.heap.size ≠ w.heap.size + 1; omega) (.int .i64 0)
  have ze := zz.errB.set 0 (.int .i64 0)
  have bz := zz.bel.setCell (p := ⟨w.heap.size + 1, 0, none⟩) (by show w.heap.size ≤ w.heap.size + 1; omega) (.int .i64 0)
  refine leaves_cons (f := 62) (args := #[.pointer (some ⟨w.heap.size, 0, none⟩), .pointer (some ⟨w.heap.size + 1, 0, none⟩)]) (by simp) (by simp [go_sem]) ?_
  with_reducible refine (catch_idle w.heap.size (w.heap.size + 1) _).mono ?_
  rintro e u' w'' ⟨rfl, rfl, rfl⟩
  clear zz z z' c0 c2 c3 c4 c5
  simp only [List.setIfInBounds_toArray, List.set_cons_zero] at ze
  have d0 := (zf).cell 0
  have d1 := (zf).cell 1
  have d2 := (zf).cell 2
  have d3 := (zf).cell 3
  have d4 := (zf).cell 4
  have d5 := (zf).cell 5
  simp only [List.getElem?_toArray, List.getElem?_cons_zero, List.getElem?_cons_succ] at d0 d1 d2 d3 d4 d5
  have h0 := (ze).cell 0
  simp only [List.getElem?_toArray, List.getElem?_cons_zero, List.getElem?_cons_succ] at h0
  clear zf ze
  generalize (World.setCell _ (⟨w.heap.size + 1, 0, none⟩ : Addr) (.int .i64 0)) = wz at *
  simp [Leaves, settle, results, Tryd.results47, go_sem, d0, d1, d2, d3, d4, d5, h0]
  exact bz

end Go.Proofs.YtpadlillbofpnaaDoor
