/- route: the five states' functions; may a route be (Check)? -/
import Derived.Test.YtgjeejdebneoaaaDoorRo2
namespace Go.Proofs.YtgjeejdebneoaaaDoor
set_option linter.unusedVariables false
set_option linter.unusedSimpArgs false
open Go.RowKit
set_option maxRecDepth 100000

def s0F (me lo fa : Int) (nx : Nat) (du : Int) (ch : Bool) : Bool := (me == 0 && lo == 0) && nowF fa nx du && !ch
def s1F (me lo fa : Int) (nx : Nat) (du : Int) : Bool := (me == 1 && lo == 0) && nowF fa nx du
def s2F (me lo fa : Int) (nx : Nat) (du : Int) : Bool := inF 2 15 me && (me == me && lo == 0) && somF fa nx du
def s3F (me lo fa : Int) (nx : Nat) (du : Int) : Bool := inF 2 15 lo && (me == 16 && lo == lo) && somF fa nx du
def s4F (me lo fa : Int) (nx : Nat) (du : Int) : Bool := (me == 16 && lo == 0) && somF fa nx du

theorem new2 (w : World) (o : Obj) (t : TypeId) (v : Value) : ((w.alloc o).alloc (.cells #[v] t)).cell? ⟨w.heap.size + 1, 0, none⟩ = some v := by
  have := new1 (w.alloc o) t v
  rwa [World.size_alloc] at this
set_option maxHeartbeats 1000000 in
theorem s0_any (a : Nat) (m st me lo fa : Int) (nx : Nat) (du : Int) (ch : Bool) (w : World) :
    Calls Tryd.prog 58 #[.agg #[.int .u32 a, .int .i64 m, .int .i64 st, .int .i64 me, .int .i64 lo, .int .i64 fa, .int .u32 nx, .int .i64 du, .bool ch]] w fun e w' => e = .returned (.bool (s0F me lo fa nx du ch)) ∧ Below w.heap.size w w' := by
  unfold s0F
  have H1 := Lib.hid (fun w => has_any a m st me lo fa nx du ch 0 0 w)
  have H2 := Lib.hid (fun w => nowhere_any a m st me lo fa nx du ch w)
  have HE := Lib.hid (Blk.new w 78 #[.int .u32 a, .int .i64 m, .int .i64 st, .int .i64 me, .int .i64 lo, .int .i64 fa, .int .u32 nx, .int .i64 du, .bool ch])
  generalize (me == 0 && lo == 0) = x1 at *
  generalize nowF fa nx du = x2 at *
  cases x1 <;> cases x2
  case true.true =>
    go_enter Tryd.func58, Tryd.ntmps58
    go_wp2_with fail
    refine (H1.out _).mono ?_
    rintro e w1 ⟨rfl, b1⟩
    have y1 := HE.out.below b1 (by simp)
    have Y1 := Lib.hid y1
    have c0 := (y1).cell 0
    have c1 := (y1).cell 1
    have c2 := (y1).cell 2
    have c3 := (y1).cell 3
    have c4 := (y1).cell 4
    have c5 := (y1).cell 5
    have c6 := (y1).cell 6
    have c7 := (y1).cell 7
    have c8 := (y1).cell 8
    simp only [List.getElem?_toArray, List.getElem?_cons_zero, List.getElem?_cons_succ] at c0 c1 c2 c3 c4 c5 c6 c7 c8
    have B1 := bnext (balloc (Below.refl w.heap.size w) _) b1
    clear y1
    go_wp2_with fail
    refine (H2.out _).mono ?_
    rintro e w2 ⟨rfl, b2⟩
    have y2 := Y1.out.below b2 Y1.out.lt
    have d0 := (y2).cell 0
    have d1 := (y2).cell 1
    have d2 := (y2).cell 2
    have d3 := (y2).cell 3
    have d4 := (y2).cell 4
    have d5 := (y2).cell 5
    have d6 := (y2).cell 6
    have d7 := (y2).cell 7
    have d8 := (y2).cell 8
    simp only [List.getElem?_toArray, List.getElem?_cons_zero, List.getElem?_cons_succ] at d0 d1 d2 d3 d4 d5 d6 d7 d8
    clear c0 c1 c2 c3 c4 c5 c6 c7 c8
    clear y2
    go_wp2_with fail
    go_ret
    exact ⟨rfl, bnext B1 b2⟩
  case true.false =>
    go_enter Tryd.func58, Tryd.ntmps58
    go_wp2_with fail
    refine (H1.out _).mono ?_
    rintro e w1 ⟨rfl, b1⟩
    have y1 := HE.out.below b1 (by simp)
    have c0 := (y1).cell 0
    have c1 := (y1).cell 1
    have c2 := (y1).cell 2
    have c3 := (y1).cell 3
    have c4 := (y1).cell 4
    have c5 := (y1).cell 5
    have c6 := (y1).cell 6
    have c7 := (y1).cell 7
    have c8 := (y1).cell 8
    simp only [List.getElem?_toArray, List.getElem?_cons_zero, List.getElem?_cons_succ] at c0 c1 c2 c3 c4 c5 c6 c7 c8
    have B1 := bnext (balloc (Below.refl w.heap.size w) _) b1
    clear y1
    go_wp2_with fail
    refine (H2.out _).mono ?_
    rintro e w2 ⟨rfl, b2⟩
    go_wp2_with fail
    go_ret
    exact ⟨rfl, bnext B1 b2⟩
  all_goals
    go_enter Tryd.func58, Tryd.ntmps58
    go_wp2_with fail
    refine (H1.out _).mono ?_
    rintro e w1 ⟨rfl, b1⟩
    go_wp2_with fail
    go_ret
    exact ⟨rfl, bnext (balloc (Below.refl w.heap.size w) _) b1⟩

set_option maxHeartbeats 1000000 in
theorem s1_any (a : Nat) (m st me lo fa : Int) (nx : Nat) (du : Int) (ch : Bool) (w : World) :
    Calls Tryd.prog 61 #[.agg #[.int .u32 a, .int .i64 m, .int .i64 st, .int .i64 me, .int .i64 lo, .int .i64 fa, .int .u32 nx, .int .i64 du, .bool ch]] w fun e w' => e = .returned (.bool (s1F me lo fa nx du)) ∧ Below w.heap.size w w' := by
  unfold s1F
  have H1 := Lib.hid (fun w => has_any a m st me lo fa nx du ch 1 0 w)
  have H2 := Lib.hid (fun w => nowhere_any a m st me lo fa nx du ch w)
  have HE := Lib.hid (Blk.new w 78 #[.int .u32 a, .int .i64 m, .int .i64 st, .int .i64 me, .int .i64 lo, .int .i64 fa, .int .u32 nx, .int .i64 du, .bool ch])
  generalize (me == 1 && lo == 0) = x1 at *
  generalize nowF fa nx du = x2 at *
  cases x1
  case true =>
    go_enter Tryd.func61, Tryd.ntmps61
    go_wp2_with fail
    refine (H1.out _).mono ?_
    rintro e w1 ⟨rfl, b1⟩
    have y1 := HE.out.below b1 (by simp)
    have c0 := (y1).cell 0
    have c1 := (y1).cell 1
    have c2 := (y1).cell 2
    have c3 := (y1).cell 3
    have c4 := (y1).cell 4
    have c5 := (y1).cell 5
    have c6 := (y1).cell 6
    have c7 := (y1).cell 7
    have c8 := (y1).cell 8
    simp only [List.getElem?_toArray, List.getElem?_cons_zero, List.getElem?_cons_succ] at c0 c1 c2 c3 c4 c5 c6 c7 c8
    have B1 := bnext (balloc (Below.refl w.heap.size w) _) b1
    clear y1
    go_wp2_with fail
    refine (H2.out _).mono ?_
    rintro e w2 ⟨rfl, b2⟩
    go_wp2_with fail
    go_ret
    exact ⟨rfl, bnext B1 b2⟩
  all_goals
    go_enter Tryd.func61, Tryd.ntmps61
    go_wp2_with fail
    refine (H1.out _).mono ?_
    rintro e w1 ⟨rfl, b1⟩
    go_wp2_with fail
    go_ret
    exact ⟨rfl, bnext (balloc (Below.refl w.heap.size w) _) b1⟩

set_option maxHeartbeats 1000000 in
theorem s4_any (a : Nat) (m st me lo fa : Int) (nx : Nat) (du : Int) (ch : Bool) (w : World) (hx : nx < 4294967296) :
    Calls Tryd.prog 65 #[.agg #[.int .u32 a, .int .i64 m, .int .i64 st, .int .i64 me, .int .i64 lo, .int .i64 fa, .int .u32 nx, .int .i64 du, .bool ch]] w fun e w' => e = .returned (.bool (s4F me lo fa nx du)) ∧ Below w.heap.size w w' := by
  unfold s4F
  have H1 := Lib.hid (fun w => has_any a m st me lo fa nx du ch 16 0 w)
  have H2 := Lib.hid (fun w => somewhere_any a m st me lo fa nx du ch w hx)
  have HE := Lib.hid (Blk.new w 78 #[.int .u32 a, .int .i64 m, .int .i64 st, .int .i64 me, .int .i64 lo, .int .i64 fa, .int .u32 nx, .int .i64 du, .bool ch])
  clear hx
  generalize (me == 16 && lo == 0) = x1 at *
  generalize somF fa nx du = x2 at *
  cases x1
  case true =>
    go_enter Tryd.func65, Tryd.ntmps65
    go_wp2_with fail
    refine (H1.out _).mono ?_
    rintro e w1 ⟨rfl, b1⟩
    have y1 := HE.out.below b1 (by simp)
    have c0 := (y1).cell 0
    have c1 := (y1).cell 1
    have c2 := (y1).cell 2
    have c3 := (y1).cell 3
    have c4 := (y1).cell 4
    have c5 := (y1).cell 5
    have c6 := (y1).cell 6
    have c7 := (y1).cell 7
    have c8 := (y1).cell 8
    simp only [List.getElem?_toArray, List.getElem?_cons_zero, List.getElem?_cons_succ] at c0 c1 c2 c3 c4 c5 c6 c7 c8
    have B1 := bnext (balloc (Below.refl w.heap.size w) _) b1
    clear y1
    go_wp2_with fail
    refine (H2.out _).mono ?_
    rintro e w2 ⟨rfl, b2⟩
    go_wp2_with fail
    go_ret
    exact ⟨rfl, bnext B1 b2⟩
  all_goals
    go_enter Tryd.func65, Tryd.ntmps65
    go_wp2_with fail
    refine (H1.out _).mono ?_
    rintro e w1 ⟨rfl, b1⟩
    go_wp2_with fail
    go_ret
    exact ⟨rfl, bnext (balloc (Below.refl w.heap.size w) _) b1⟩

section
variable (a : Nat) (m st me lo fa : Int) (nx : Nat) (du : Int) (ch : Bool) (w : World) (hx : nx < 4294967296)
include hx
set_option maxHeartbeats 1000000 in
theorem s2_any :
    Calls Tryd.prog 62 #[.agg #[.int .u32 a, .int .i64 m, .int .i64 st, .int .i64 me, .int .i64 lo, .int .i64 fa, .int .u32 nx, .int .i64 du, .bool ch]] w fun e w' => e = .returned (.bool (s2F me lo fa nx du)) ∧ Below w.heap.size w w' := by
  unfold s2F
  have H0 := Lib.hid (fun (g : Nat) (w : World) c0 => withinI_any 2 15 me g w c0)
  have H1 := Lib.hid (fun w => has_any a m st me lo fa nx du ch me 0 w)
  have H2 := Lib.hid (fun w => somewhere_any a m st me lo fa nx du ch w hx)
  have HE := Lib.hid (Blk.new w 78 #[.int .u32 a, .int .i64 m, .int .i64 st, .int .i64 me, .int .i64 lo, .int .i64 fa, .int .u32 nx, .int .i64 du, .bool ch])
  clear hx
  generalize inF 2 15 me = x0 at *
  generalize (me == me && lo == 0) = x1 at *
  generalize somF fa nx du = x2 at *
  cases x0
  case false =>
    go_enter Tryd.func62, Tryd.ntmps62
    go_wp2_with fail
    refine (H0.out _ _ (new2 _ _ _ _)).mono ?_
    rintro e w1 ⟨rfl, rfl⟩
    go_wp2_with fail
    go_ret
    exact ⟨rfl, balloc (balloc (Below.refl _ _) _) _⟩
  case true =>
  cases x1
  case false =>
    go_enter Tryd.func62, Tryd.ntmps62
    go_wp2_with fail
    refine (H0.out _ _ (new2 _ _ _ _)).mono ?_
    rintro e w1 ⟨rfl, rfl⟩
    go_wp2_with fail
    refine (H1.out _).mono ?_
    rintro e w1 ⟨rfl, b1⟩
    go_wp2_with fail
    go_ret
    exact ⟨rfl, bnext (balloc (balloc (Below.refl w.heap.size w) _) _) b1⟩
  case true =>
    go_enter Tryd.func62, Tryd.ntmps62
    go_wp2_with fail
    refine (H0.out _ _ (new2 _ _ _ _)).mono ?_
    rintro e w1 ⟨rfl, rfl⟩
    go_wp2_with fail
    refine (H1.out _).mono ?_
    rintro e w1 ⟨rfl, b1⟩
    have y1 := (HE.out.alloc _).below b1 (HE.out.alloc _).lt
    have c0 := (y1).cell 0
    have c1 := (y1).cell 1
    have c2 := (y1).cell 2
    have c3 := (y1).cell 3
    have c4 := (y1).cell 4
    have c5 := (y1).cell 5
    have c6 := (y1).cell 6
    have c7 := (y1).cell 7
    have c8 := (y1).cell 8
    simp only [List.getElem?_toArray, List.getElem?_cons_zero, List.getElem?_cons_succ] at c0 c1 c2 c3 c4 c5 c6 c7 c8
    have B1 := bnext (balloc (balloc (Below.refl w.heap.size w) _) _) b1
    clear y1
    go_wp2_with fail
    refine (H2.out _).mono ?_
    rintro e w2 ⟨rfl, b2⟩
    go_wp2_with fail
    go_ret
    exact ⟨rfl, bnext B1 b2⟩

set_option maxHeartbeats 1000000 in
theorem s3_any :
    Calls Tryd.prog 64 #[.agg #[.int .u32 a, .int .i64 m, .int .i64 st, .int .i64 me, .int .i64 lo, .int .i64 fa, .int .u32 nx, .int .i64 du, .bool ch]] w fun e w' => e = .returned (.bool (s3F me lo fa nx du)) ∧ Below w.heap.size w w' := by
  unfold s3F
  have H0 := Lib.hid (fun (g : Nat) (w : World) c0 => withinI_any 2 15 lo g w c0)
  have H1 := Lib.hid (fun w => has_any a m st me lo fa nx du ch 16 lo w)
  have H2 := Lib.hid (fun w => somewhere_any a m st me lo fa nx du ch w hx)
  have HE := Lib.hid (Blk.new w 78 #[.int .u32 a, .int .i64 m, .int .i64 st, .int .i64 me, .int .i64 lo, .int .i64 fa, .int .u32 nx, .int .i64 du, .bool ch])
  clear hx
  generalize inF 2 15 lo = x0 at *
  generalize (me == 16 && lo == lo) = x1 at *
  generalize somF fa nx du = x2 at *
  cases x0
  case false =>
    go_enter Tryd.func64, Tryd.ntmps64
    go_wp2_with fail
    refine (H0.out _ _ (new2 _ _ _ _)).mono ?_
    rintro e w1 ⟨rfl, rfl⟩
    go_wp2_with fail
    go_ret
    exact ⟨rfl, balloc (balloc (Below.refl _ _) _) _⟩
  case true =>
  cases x1
  case false =>
    go_enter Tryd.func64, Tryd.ntmps64
    go_wp2_with fail
    refine (H0.out _ _ (new2 _ _ _ _)).mono ?_
    rintro e w1 ⟨rfl, rfl⟩
    go_wp2_with fail
    refine (H1.out _).mono ?_
    rintro e w1 ⟨rfl, b1⟩
    go_wp2_with fail
    go_ret
    exact ⟨rfl, bnext (balloc (balloc (Below.refl w.heap.size w) _) _) b1⟩
  case true =>
    go_enter Tryd.func64, Tryd.ntmps64
    go_wp2_with fail
    refine (H0.out _ _ (new2 _ _ _ _)).mono ?_
    rintro e w1 ⟨rfl, rfl⟩
    go_wp2_with fail
    refine (H1.out _).mono ?_
    rintro e w1 ⟨rfl, b1⟩
    have y1 := (HE.out.alloc _).below b1 (HE.out.alloc _).lt
    have c0 := (y1).cell 0
    have c1 := (y1).cell 1
    have c2 := (y1).cell 2
    have c3 := (y1).cell 3
    have c4 := (y1).cell 4
    have c5 := (y1).cell 5
    have c6 := (y1).cell 6
    have c7 := (y1).cell 7
    have c8 := (y1).cell 8
    simp only [List.getElem?_toArray, List.getElem?_cons_zero, List.getElem?_cons_succ] at c0 c1 c2 c3 c4 c5 c6 c7 c8
    have B1 := bnext (balloc (balloc (Below.refl w.heap.size w) _) _) b1
    clear y1
    go_wp2_with fail
    refine (H2.out _).mono ?_
    rintro e w2 ⟨rfl, b2⟩
    go_wp2_with fail
    go_ret
    exact ⟨rfl, bnext B1 b2⟩

end
/-- the functions of the states, by the state -/
def stF (st me lo fa : Int) (nx : Nat) (du : Int) (ch : Bool) : Bool := if st = 0 then s0F me lo fa nx du ch else if st = 1 then s1F me lo fa nx du else if st = 2 then s2F me lo fa nx du else if st = 3 then s3F me lo fa nx du else if st = 4 then s4F me lo fa nx du else false
/-- may a route be? -/
def okR (a : Nat) (m st me lo fa : Int) (nx : Nat) (du : Int) (ch : Bool) : Bool := stF st me lo fa nx du ch && okOf a m 1
theorem enterR (st : Int) (args : Array Value) (w : World) : (callFunc (fnR st) args).run Tryd.prog w = .ok (.enter (fnR st) args) w := by
  unfold fnR
  split
  · kernel_rfl
  split
  · kernel_rfl
  split
  · kernel_rfl
  split
  · kernel_rfl
  · kernel_rfl
theorem st_any (a : Nat) (m st me lo fa : Int) (nx : Nat) (du : Int) (ch : Bool) (w : World) (hx : nx < 4294967296) (h : 0 ≤ st ∧ st ≤ 4) :
    Calls Tryd.prog (fnR st) #[.agg #[.int .u32 a, .int .i64 m, .int .i64 st, .int .i64 me, .int .i64 lo, .int .i64 fa, .int .u32 nx, .int .i64 du, .bool ch]] w fun e w' => e = .returned (.bool (stF st me lo fa nx du ch)) ∧ Below w.heap.size w w' := by
  rcases (by omega : st = 0 ∨ st = 1 ∨ st = 2 ∨ st = 3 ∨ st = 4) with rfl | rfl | rfl | rfl | rfl
  · exact s0_any a m _ me lo fa nx du ch w
  · exact s1_any a m _ me lo fa nx du ch w
  · exact s2_any a m _ me lo fa nx du ch w hx
  · exact s3_any a m _ me lo fa nx du ch w hx
  · exact s4_any a m _ me lo fa nx du ch w hx
theorem okR_st (a : Nat) (m st me lo fa : Int) (nx : Nat) (du : Int) (ch : Bool) (h : ¬ (0 ≤ st ∧ st ≤ 4)) : okR a m st me lo fa nx du ch = false := by
  unfold okR stF
  rw [if_neg (by omega), if_neg (by omega), if_neg (by omega), if_neg (by omega), if_neg (by omega)]
  rfl
end Go.Proofs.YtgjeejdebneoaaaDoor
