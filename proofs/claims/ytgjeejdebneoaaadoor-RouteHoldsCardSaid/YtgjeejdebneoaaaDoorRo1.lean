/- route: what a route's numbers must be (within, has, isNowhere, isSomewhere, mayCome, isTold, isTimed). -/
import Derived.Test.YtgjeejdebneoaaaDoorEnt4
import Derived.Test.YtgjeejdebneoaaaDoorCfgA
import Derived.Test.YtgjeejdebneoaaaDoorRowX
namespace Go.Proofs.YtgjeejdebneoaaaDoor
set_option linter.unusedVariables false
set_option linter.unusedSimpArgs false
open Go.RowKit
set_option maxRecDepth 100000

theorem new1 (w : World) (t : TypeId) (v : Value) : (w.alloc (.cells #[v] t)).cell? ⟨w.heap.size, 0, none⟩ = some v := (Blk.new w t #[v]).cell 0
/-- from one number to another one -/
def inF (l h n : Int) : Bool := decide (l ≤ n ∧ n ≤ h)
theorem withinI_any (l h x : Int) (g : Nat) (w : World) (c0 : w.cell? ⟨g, 0, none⟩ = some (.int .i64 x)) :
    Calls Tryd.prog 55 #[.int .i64 l, .int .i64 h, .slice (some ⟨g, 0, none⟩) 1 1] w fun e w' => e = .returned (.bool (inF l h x)) ∧ w = w' := by
  by_cases h0 : l ≤ x
  · have d0 : decide (x < l) = false := by simpa using h0
    by_cases h1 : x ≤ h
    · have d1 : decide (h < x) = false := by simpa using h1
      have HB := Lib.hid (show inF l h x = true from decide_eq_true ⟨h0, h1⟩)
      rw [HB.out]
      clear h0 h1
      go_enter Tryd.func55, Tryd.ntmps55
      go_wp2_with fail
      refine wp_loop_rounds 4 ?_
      rw [rounds_succ]
      go_wp2_with fail
      rw [rounds_succ]
      go_wp2_with fail
      go_ret
      exact ⟨rfl, rfl⟩
    · have d1 : decide (h < x) = true := by simpa using h1
      have HB := Lib.hid (show inF l h x = false from decide_eq_false (by omega))
      rw [HB.out]
      clear h0 h1
      go_enter Tryd.func55, Tryd.ntmps55
      go_wp2_with fail
      refine wp_loop_rounds 4 ?_
      rw [rounds_succ]
      go_wp2_with fail
      go_ret
      exact ⟨rfl, rfl⟩
  · have d0 : decide (x < l) = true := by simpa using h0
    have HB := Lib.hid (show inF l h x = false from decide_eq_false (by omega))
    rw [HB.out]
    clear h0
    go_enter Tryd.func55, Tryd.ntmps55
    go_wp2_with fail
    refine wp_loop_rounds 4 ?_
    rw [rounds_succ]
    go_wp2_with fail
    go_ret
    exact ⟨rfl, rfl⟩
theorem within64_any (l h x : Int) (g : Nat) (w : World) (c0 : w.cell? ⟨g, 0, none⟩ = some (.int .i64 x)) :
    Calls Tryd.prog 56 #[.int .i64 l, .int .i64 h, .slice (some ⟨g, 0, none⟩) 1 1] w fun e w' => e = .returned (.bool (inF l h x)) ∧ w = w' := by
  by_cases h0 : l ≤ x
  · have d0 : decide (x < l) = false := by simpa using h0
    by_cases h1 : x ≤ h
    · have d1 : decide (h < x) = false := by simpa using h1
      have HB := Lib.hid (show inF l h x = true from decide_eq_true ⟨h0, h1⟩)
      rw [HB.out]
      clear h0 h1
      go_enter Tryd.func56, Tryd.ntmps56
      go_wp2_with fail
      refine wp_loop_rounds 4 ?_
      rw [rounds_succ]
      go_wp2_with fail
      rw [rounds_succ]
      go_wp2_with fail
      go_ret
      exact ⟨rfl, rfl⟩
    · have d1 : decide (h < x) = true := by simpa using h1
      have HB := Lib.hid (show inF l h x = false from decide_eq_false (by omega))
      rw [HB.out]
      clear h0 h1
      go_enter Tryd.func56, Tryd.ntmps56
      go_wp2_with fail
      refine wp_loop_rounds 4 ?_
      rw [rounds_succ]
      go_wp2_with fail
      go_ret
      exact ⟨rfl, rfl⟩
  · have d0 : decide (x < l) = true := by simpa using h0
    have HB := Lib.hid (show inF l h x = false from decide_eq_false (by omega))
    rw [HB.out]
    clear h0
    go_enter Tryd.func56, Tryd.ntmps56
    go_wp2_with fail
    refine wp_loop_rounds 4 ?_
    rw [rounds_succ]
    go_wp2_with fail
    go_ret
    exact ⟨rfl, rfl⟩

set_option maxHeartbeats 1000000 in
/-- has the route these: a metric, and what was lost? -/
theorem has_any (a : Nat) (m st me lo fa : Int) (nx : Nat) (du : Int) (ch : Bool) (x y : Int) (w : World) :
    Calls Tryd.prog 59 #[.agg #[.int .u32 a, .int .i64 m, .int .i64 st, .int .i64 me, .int .i64 lo, .int .i64 fa, .int .u32 nx, .int .i64 du, .bool ch], .int .i64 x, .int .i64 y] w fun e w' => e = .returned (.bool (me == x && lo == y)) ∧ Below w.heap.size w w' := by
  generalize e1 : (me == x) = b1
  generalize e2 : (lo == y) = b2
  cases b1 <;> cases b2
  all_goals
    go_enter Tryd.func59, Tryd.ntmps59
    go_wp2_with fail
    go_ret
    exact ⟨rfl, balloc (Below.refl _ _) _⟩

/-- has it no face, no neighbour, no time? -/
def nowF (fa : Int) (nx : Nat) (du : Int) : Bool := fa == 0 && (nx : Int) == 0 && du == 0
set_option maxHeartbeats 1000000 in
theorem nowhere_any (a : Nat) (m st me lo fa : Int) (nx : Nat) (du : Int) (ch : Bool) (w : World) :
    Calls Tryd.prog 60 #[.agg #[.int .u32 a, .int .i64 m, .int .i64 st, .int .i64 me, .int .i64 lo, .int .i64 fa, .int .u32 nx, .int .i64 du, .bool ch]] w fun e w' => e = .returned (.bool (nowF fa nx du)) ∧ Below w.heap.size w w' := by
  unfold nowF
  generalize e1 : (fa == 0) = b1
  generalize e2 : ((nx : Int) == 0) = b2
  generalize e3 : (du == 0) = b3
  cases b1 <;> cases b2 <;> cases b3
  all_goals
    go_enter Tryd.func60, Tryd.ntmps60
    go_wp2_with fail
    go_ret
    exact ⟨rfl, balloc (Below.refl _ _) _⟩

/-- may something come by a face from an address? -/
def mayF (fa : Int) (nx : Nat) : Bool := inF 0 15 fa && (kindF nx : Int) == 6
set_option maxHeartbeats 1000000 in
theorem mayCome_any (fa : Int) (nx : Nat) (w : World) (hx : nx < 4294967296) :
    Calls Tryd.prog 54 #[.int .i64 fa, .int .u32 nx] w fun e w' => e = .returned (.bool (mayF fa nx)) ∧ Below w.heap.size w w' := by
  unfold mayF
  have HW := Lib.hid (fun (g : Nat) (w : World) c0 => withinI_any 0 15 fa g w c0)
  have HK := Lib.hid (fun w => kind_any nx w hx)
  clear hx
  generalize inF 0 15 fa = b1 at *
  generalize kindF nx = kk at *
  generalize e2 : ((kk : Int) == 6) = b2
  cases b1 <;> cases b2
  all_goals
    go_enter Tryd.func54, Tryd.ntmps54
    go_wp2_with fail
    refine (HW.out _ _ (new1 _ _ _)).mono ?_
    rintro e w' ⟨rfl, rfl⟩
    go_wp2_with (refine (HK.out _).mono ?_; rintro e w1 ⟨rfl, b1⟩)
    go_ret
    first
      | exact ⟨rfl, balloc (Below.refl _ _) _⟩
      | exact ⟨rfl, bnext (balloc (Below.refl _ _) _) b1⟩

/-- has it a face, a neighbour, and a time that may be? -/
def somF (fa : Int) (nx : Nat) (du : Int) : Bool := mayF fa nx && inF 0 4611686018427387904 du
set_option maxHeartbeats 1000000 in
theorem somewhere_any (a : Nat) (m st me lo fa : Int) (nx : Nat) (du : Int) (ch : Bool) (w : World) (hx : nx < 4294967296) :
    Calls Tryd.prog 63 #[.agg #[.int .u32 a, .int .i64 m, .int .i64 st, .int .i64 me, .int .i64 lo, .int .i64 fa, .int .u32 nx, .int .i64 du, .bool ch]] w fun e w' => e = .returned (.bool (somF fa nx du)) ∧ Below w.heap.size w w' := by
  unfold somF
  have HM := Lib.hid (fun w => mayCome_any fa nx w hx)
  have HW := Lib.hid (fun (g : Nat) (w : World) c0 => within64_any 0 4611686018427387904 du g w c0)
  have HE := Lib.hid (Blk.new w 78 #[.int .u32 a, .int .i64 m, .int .i64 st, .int .i64 me, .int .i64 lo, .int .i64 fa, .int .u32 nx, .int .i64 du, .bool ch])
  clear hx
  generalize mayF fa nx = b1 at *
  generalize inF 0 4611686018427387904 du = b2 at *
  cases b1
  · go_enter Tryd.func63, Tryd.ntmps63
    go_wp2_with fail
    refine (HM.out _).mono ?_
    rintro e w1 ⟨rfl, b1⟩
    go_wp2_with fail
    go_ret
    exact ⟨rfl, bnext (balloc (Below.refl _ _) _) b1⟩
  · go_enter Tryd.func63, Tryd.ntmps63
    go_wp2_with fail
    refine (HM.out _).mono ?_
    rintro e w1 ⟨rfl, b1⟩
    have hb := HE.out.below b1 (by simp)
    have c0 := (hb).cell 0
    have c1 := (hb).cell 1
    have c2 := (hb).cell 2
    have c3 := (hb).cell 3
    have c4 := (hb).cell 4
    have c5 := (hb).cell 5
    have c6 := (hb).cell 6
    have c7 := (hb).cell 7
    have c8 := (hb).cell 8
    simp only [List.getElem?_toArray, List.getElem?_cons_zero, List.getElem?_cons_succ] at c0 c1 c2 c3 c4 c5 c6 c7 c8
    have BB := bnext (balloc (Below.refl _ _) _) b1
    clear hb
    go_wp2_with fail
    refine (HW.out _ _ (new1 _ _ _)).mono ?_
    rintro e w' ⟨rfl, rfl⟩
    go_wp2_with fail
    go_ret
    exact ⟨rfl, balloc BB _⟩

set_option maxHeartbeats 1000000 in
/-- may the prefix be told? -/
theorem isTold_any (a : Nat) (m st me lo fa : Int) (nx : Nat) (du : Int) (ch : Bool) (w : World) (ha : a < 4294967296) :
    Calls Tryd.prog 41 #[.agg #[.int .u32 a, .int .i64 m, .int .i64 st, .int .i64 me, .int .i64 lo, .int .i64 fa, .int .u32 nx, .int .i64 du, .bool ch]] w fun e w' => e = .returned (.bool (okOf a m 1)) ∧ Below w.heap.size w w' := by
  have HO := Lib.hid (fun w => of_any a m 1 w ha (by decide))
  unfold ofV at HO
  clear ha
  generalize okOf a m 1 = ok at *
  cases ok
  all_goals
    simp only [Bool.false_eq_true, if_false, if_true] at HO
    go_enter Tryd.func41, Tryd.ntmps41
    go_wp2_with fail
    refine (HO.out _).mono ?_
    rintro e w1 ⟨rfl, b1⟩
    go_wp2_with fail
    go_ret
    exact ⟨rfl, balloc (bnext (balloc (Below.refl _ _) _) b1) _⟩

/-- is it due at some time? -/
def timF (st : Int) : Bool := st == 2 || st == 3 || st == 4
set_option maxHeartbeats 1000000 in
theorem isTimed_any (a : Nat) (m st me lo fa : Int) (nx : Nat) (du : Int) (ch : Bool) (w : World) :
    Calls Tryd.prog 38 #[.agg #[.int .u32 a, .int .i64 m, .int .i64 st, .int .i64 me, .int .i64 lo, .int .i64 fa, .int .u32 nx, .int .i64 du, .bool ch]] w fun e w' => e = .returned (.bool (timF st)) ∧ Below w.heap.size w w' := by
  unfold timF
  generalize e1 : (st == 2) = b1
  generalize e2 : (st == 3) = b2
  generalize e3 : (st == 4) = b3
  cases b1 <;> cases b2 <;> cases b3
  all_goals
    go_enter Tryd.func38, Tryd.ntmps38
    go_wp2_with fail
    go_ret
    exact ⟨rfl, balloc (Below.refl _ _) _⟩
end Go.Proofs.YtgjeejdebneoaaaDoor
