/- route: == of two routes; the document's: which routes may be, what is asked, what is told, a route that expires. -/
import Derived.Test.YtgjeejdebneoaaaDoorRo5
import Derived.Test.YtgjeejdebneoaaaDoorKindR
namespace Go.Proofs.YtgjeejdebneoaaaDoor
set_option linter.unusedVariables false
set_option linter.unusedSimpArgs false
open Go.RowKit
set_option maxRecDepth 100000
theorem eq_rt (a m st me lo fa nx du a' m' st' me' lo' fa' nx' du' : Int) (ch ch' : Bool) (w : World) : (binOp .eql 31 (.agg #[.int .u32 a, .int .i64 m, .int .i64 st, .int .i64 me, .int .i64 lo, .int .i64 fa, .int .u32 nx, .int .i64 du, .bool ch]) (.agg #[.int .u32 a', .int .i64 m', .int .i64 st', .int .i64 me', .int .i64 lo', .int .i64 fa', .int .u32 nx', .int .i64 du', .bool ch'])).run Tryd.prog w = .ok (.bool ((a == a' && m == m' && st == st' && me == me' && lo == lo' && fa == fa' && nx == nx' && du == du' && ch == ch'))) w := by
  have h1 : Tryd.prog.underlying 31 = some (.struct (Tryd.prog.fieldsOf 31)) := by simp [Program.fieldsOf, Tryd.underlying31]
  have h2 := run_equalIn_struct (P := Tryd.prog) w 9999 31 #[.int .u32 a, .int .i64 m, .int .i64 st, .int .i64 me, .int .i64 lo, .int .i64 fa, .int .u32 nx, .int .i64 du, .bool ch] #[.int .u32 a', .int .i64 m', .int .i64 st', .int .i64 me', .int .i64 lo', .int .i64 fa', .int .u32 nx', .int .i64 du', .bool ch'] h1 (by kernel_rfl)
  simp only [binOp]
  simp only [Op.equal, Op.maxDepth, Sem.run_bind, h2]
  by_cases e0 : a = a' <;> simp [go_sem, e0]
  by_cases e1 : m = m' <;> simp [go_sem, e1]
  by_cases e2 : st = st' <;> simp [go_sem, e2]
  by_cases e3 : me = me' <;> simp [go_sem, e3]
  by_cases e4 : lo = lo' <;> simp [go_sem, e4]
  by_cases e5 : fa = fa' <;> simp [go_sem, e5]
  by_cases e6 : nx = nx' <;> simp [go_sem, e6]
  by_cases e7 : du = du' <;> simp [go_sem, e7]
  by_cases e8 : ch = ch' <;> simp [go_sem, e8]
theorem ne_rt (a m st me lo fa nx du a' m' st' me' lo' fa' nx' du' : Int) (ch ch' : Bool) (w : World) : (binOp .neq 31 (.agg #[.int .u32 a, .int .i64 m, .int .i64 st, .int .i64 me, .int .i64 lo, .int .i64 fa, .int .u32 nx, .int .i64 du, .bool ch]) (.agg #[.int .u32 a', .int .i64 m', .int .i64 st', .int .i64 me', .int .i64 lo', .int .i64 fa', .int .u32 nx', .int .i64 du', .bool ch'])).run Tryd.prog w = .ok (.bool (!(a == a' && m == m' && st == st' && me == me' && lo == lo' && fa == fa' && nx == nx' && du == du' && ch == ch'))) w := by
  have h1 : Tryd.prog.underlying 31 = some (.struct (Tryd.prog.fieldsOf 31)) := by simp [Program.fieldsOf, Tryd.underlying31]
  have h2 := run_equalIn_struct (P := Tryd.prog) w 9999 31 #[.int .u32 a, .int .i64 m, .int .i64 st, .int .i64 me, .int .i64 lo, .int .i64 fa, .int .u32 nx, .int .i64 du, .bool ch] #[.int .u32 a', .int .i64 m', .int .i64 st', .int .i64 me', .int .i64 lo', .int .i64 fa', .int .u32 nx', .int .i64 du', .bool ch'] h1 (by kernel_rfl)
  simp only [binOp]
  simp only [Op.equal, Op.maxDepth, Sem.run_bind, h2]
  by_cases e0 : a = a' <;> simp [go_sem, e0]
  by_cases e1 : m = m' <;> simp [go_sem, e1]
  by_cases e2 : st = st' <;> simp [go_sem, e2]
  by_cases e3 : me = me' <;> simp [go_sem, e3]
  by_cases e4 : lo = lo' <;> simp [go_sem, e4]
  by_cases e5 : fa = fa' <;> simp [go_sem, e5]
  by_cases e6 : nx = nx' <;> simp [go_sem, e6]
  by_cases e7 : du = du' <;> simp [go_sem, e7]
  by_cases e8 : ch = ch' <;> simp [go_sem, e8]
theorem inF_split (l h n : Int) : inF l h n = (decide (l ≤ n) && decide (n ≤ h)) := by simp [inF]
theorem rb {x y : Bool} (h : x = y) : Ending.returned (.bool x) = .returned (.bool y) := by rw [h]
set_option maxHeartbeats 1000000 in
theorem rtime11_any (x : Int) (w : World) :
    Calls Tryd.prog 57 #[.int .i64 x] w fun e w' => e = .returned (.bool (inF 0 4611686018426387904 x)) ∧ w = w' := by
  rw [inF_split]
  cases h1 : decide (0 ≤ x)
  all_goals cases h2 : decide (x ≤ 4611686018426387904)
  all_goals
    go_enter Tryd.func57, Tryd.ntmps57
    go_wp2_with fail
    go_ret
    exact ⟨rfl, rfl⟩
set_option maxHeartbeats 1000000 in
theorem rtime7_any (x : Int) (w : World) :
    Calls Tryd.prog 43 #[.int .i64 x] w fun e w' => e = .returned (.bool (inF 0 4611686018427387904 x)) ∧ w = w' := by
  rw [inF_split]
  cases h1 : decide (0 ≤ x)
  all_goals cases h2 : decide (x ≤ 4611686018427387904)
  all_goals
    go_enter Tryd.func43, Tryd.ntmps43
    go_wp2_with fail
    go_ret
    exact ⟨rfl, rfl⟩
set_option maxHeartbeats 1000000 in
theorem side_any (fa : Int) (nx : Nat) (w : World) (hx : nx < 4294967296) :
    Calls Tryd.prog 42 #[.int .i64 fa, .int .u32 nx] w fun e w' => e = .returned (.bool (mayF fa nx)) ∧ Below w.heap.size w w' := by
  unfold mayF
  rw [inF_split]
  have HK := Lib.hid (fun w => refKindA_any nx w hx)
  clear hx
  generalize kindF nx = kk at *
  generalize e2 : ((kk : Int) == 6) = b2
  cases h1 : decide (0 ≤ fa)
  all_goals cases h2 : decide (fa ≤ 15)
  all_goals cases b2
  all_goals
    go_enter Tryd.func42, Tryd.ntmps42
    go_wp2_with (refine (HK.out _).mono ?_; rintro e w1 ⟨rfl, b1⟩)
    go_ret
    first
      | exact ⟨rfl, Below.refl _ _⟩
      | exact ⟨rfl, b1⟩
set_option maxHeartbeats 1000000 in
theorem rheard_any (hf : Int) (hx : Nat) (hm : Int) (w : World) (hb : hx < 4294967296) :
    Calls Tryd.prog 29 #[.agg #[.int .i64 hf, .int .u32 hx, .int .i64 hm]] w fun e w' => e = .returned (.bool (okH hf hx hm)) ∧ Below w.heap.size w w' := by
  unfold okH
  rw [inF_split 1 16 hm]
  have HM := Lib.hid (fun w => side_any hf hx w hb)
  have HE := Lib.hid (Blk.new w 33 #[.int .i64 hf, .int .u32 hx, .int .i64 hm])
  clear hb
  generalize mayF hf hx = x1 at *
  cases x1
  all_goals cases h1 : decide (1 ≤ hm)
  all_goals cases h2 : decide (hm ≤ 16)
  all_goals
    go_enter Tryd.func29, Tryd.ntmps29
    go_wp2_with fail
    refine (HM.out _).mono ?_
    rintro e w1 ⟨rfl, b1⟩
    have y1 := HE.out.below b1 (by simp)
    have c0 := (y1).cell 0
    have c1 := (y1).cell 1
    have c2 := (y1).cell 2
    simp only [List.getElem?_toArray, List.getElem?_cons_zero, List.getElem?_cons_succ] at c0 c1 c2
    have BB := bnext (balloc (Below.refl w.heap.size w) _) b1
    clear y1
    go_wp2_with fail
    go_ret
    exact ⟨rfl, BB⟩
set_option maxHeartbeats 1000000 in
theorem rright_bad (a : Nat) (m st me lo fa : Int) (nx : Nat) (du : Int) (ch : Bool) (w : World) (ha : a < 4294967296) (hg : okOf a m 1 = false) :
    Calls Tryd.prog 18 #[.agg #[.int .u32 a, .int .i64 m, .int .i64 st, .int .i64 me, .int .i64 lo, .int .i64 fa, .int .u32 nx, .int .i64 du, .bool ch]] w fun e w' => e = .returned (.bool false) ∧ Below w.heap.size w w' := by
  have HG := Lib.hid (fun w => refGood_any a m w ha)
  rw [← okOf_one, hg] at HG
  clear ha hg
  go_enter Tryd.func18, Tryd.ntmps18
  go_wp2_with fail
  refine (HG.out _).mono ?_
  rintro e w1 ⟨rfl, b1⟩
  go_wp2_with fail
  go_ret
  exact ⟨rfl, bnext (balloc (Below.refl w.heap.size w) _) b1⟩
set_option maxHeartbeats 1000000 in
theorem rright_st (a : Nat) (m st me lo fa : Int) (nx : Nat) (du : Int) (ch : Bool) (w : World) (ha : a < 4294967296) (hg : okOf a m 1 = true) (d0 : (st == 0) = false) (d1 : (st == 1) = false) (d2 : (st == 2) = false) (d3 : (st == 3) = false) (d4 : (st == 4) = false) :
    Calls Tryd.prog 18 #[.agg #[.int .u32 a, .int .i64 m, .int .i64 st, .int .i64 me, .int .i64 lo, .int .i64 fa, .int .u32 nx, .int .i64 du, .bool ch]] w fun e w' => e = .returned (.bool false) ∧ Below w.heap.size w w' := by
  have HG := Lib.hid (fun w => refGood_any a m w ha)
  rw [← okOf_one, hg] at HG
  have HE := Lib.hid (Blk.new w 31 #[.int .u32 a, .int .i64 m, .int .i64 st, .int .i64 me, .int .i64 lo, .int .i64 fa, .int .u32 nx, .int .i64 du, .bool ch])
  clear ha hg
  go_enter Tryd.func18, Tryd.ntmps18
  go_wp2_with fail
  refine (HG.out _).mono ?_
  rintro e w1 ⟨rfl, b1⟩
  have y1 := HE.out.below b1 (by simp)
  have c0 := (y1).cell 0
  have c1 := (y1).cell 1
  have c2 := (y1).cell 2
  have c3 := (y1).cell 3
  have c4 := (y1).cell 4
  have c5 := (y1).cell 5
  have c6 := (y1).cell 6
  have c7 := (y1).cell 7
  have c8 := (y1).cell 8
  simp only [List.getElem?_toArray, List.getElem?_cons_zero, List.getElem?_cons_succ] at c0 c1 c2 c3 c4 c5 c6 c7 c8
  clear y1
  have BB := bnext (balloc (Below.refl w.heap.size w) _) b1
  go_wp2_with fail
  go_ret
  exact ⟨rfl, BB⟩
set_option maxHeartbeats 1000000 in
theorem rright_0 (a : Nat) (m me lo fa : Int) (nx : Nat) (du : Int) (ch : Bool) (w : World) (ha : a < 4294967296) (hg : okOf a m 1 = true) :
    Calls Tryd.prog 18 #[.agg #[.int .u32 a, .int .i64 m, .int .i64 0, .int .i64 me, .int .i64 lo, .int .i64 fa, .int .u32 nx, .int .i64 du, .bool ch]] w fun e w' => e = .returned (.bool (okR a m 0 me lo fa nx du ch)) ∧ Below w.heap.size w w' := by
  have HG := Lib.hid (fun w => refGood_any a m w ha)
  rw [← okOf_one, hg] at HG
  have hok : okR a m 0 me lo fa nx du ch = s0F me lo fa nx du ch := by show (s0F me lo fa nx du ch && okOf a m 1) = _; rw [hg, Bool.and_true]
  rw [hok]
  have HE := Lib.hid (Blk.new w 31 #[.int .u32 a, .int .i64 m, .int .i64 0, .int .i64 me, .int .i64 lo, .int .i64 fa, .int .u32 nx, .int .i64 du, .bool ch])
  have heq := fun W => eq_rt a m 0 me lo fa nx du a m 0 0 0 0 0 0 ch false W
  clear ha hg hok
  go_enter Tryd.func18, Tryd.ntmps18
  go_wp2_with fail
  refine (HG.out _).mono ?_
  rintro e w1 ⟨rfl, b1⟩
  have y1 := HE.out.below b1 (by simp)
  have c0 := (y1).cell 0
  have c1 := (y1).cell 1
  have c2 := (y1).cell 2
  have c3 := (y1).cell 3
  have c4 := (y1).cell 4
  have c5 := (y1).cell 5
  have c6 := (y1).cell 6
  have c7 := (y1).cell 7
  have c8 := (y1).cell 8
  simp only [List.getElem?_toArray, List.getElem?_cons_zero, List.getElem?_cons_succ] at c0 c1 c2 c3 c4 c5 c6 c7 c8
  clear y1
  have BB := bnext (balloc (Below.refl w.heap.size w) _) b1
  go_wp2_with fail
  go_ret
  refine ⟨rb ?_, BB⟩
  cases ch <;> simp [s0F, nowF, Bool.and_assoc]
set_option maxHeartbeats 1000000 in
theorem rright_1 (a : Nat) (m me lo fa : Int) (nx : Nat) (du : Int) (ch : Bool) (w : World) (ha : a < 4294967296) (hg : okOf a m 1 = true) :
    Calls Tryd.prog 18 #[.agg #[.int .u32 a, .int .i64 m, .int .i64 1, .int .i64 me, .int .i64 lo, .int .i64 fa, .int .u32 nx, .int .i64 du, .bool ch]] w fun e w' => e = .returned (.bool (okR a m 1 me lo fa nx du ch)) ∧ Below w.heap.size w w' := by
  have HG := Lib.hid (fun w => refGood_any a m w ha)
  rw [← okOf_one, hg] at HG
  have hok : okR a m 1 me lo fa nx du ch = s1F me lo fa nx du := by show (s1F me lo fa nx du && okOf a m 1) = _; rw [hg, Bool.and_true]
  rw [hok]
  have HE := Lib.hid (Blk.new w 31 #[.int .u32 a, .int .i64 m, .int .i64 1, .int .i64 me, .int .i64 lo, .int .i64 fa, .int .u32 nx, .int .i64 du, .bool ch])
  have heq := fun W => eq_rt a m 1 me lo fa nx du a m 1 1 0 0 0 0 ch ch W
  clear ha hg hok
  go_enter Tryd.func18, Tryd.ntmps18
  go_wp2_with fail
  refine (HG.out _).mono ?_
  rintro e w1 ⟨rfl, b1⟩
  have y1 := HE.out.below b1 (by simp)
  have c0 := (y1).cell 0
  have c1 := (y1).cell 1
  have c2 := (y1).cell 2
  have c3 := (y1).cell 3
  have c4 := (y1).cell 4
  have c5 := (y1).cell 5
  have c6 := (y1).cell 6
  have c7 := (y1).cell 7
  have c8 := (y1).cell 8
  simp only [List.getElem?_toArray, List.getElem?_cons_zero, List.getElem?_cons_succ] at c0 c1 c2 c3 c4 c5 c6 c7 c8
  clear y1
  have BB := bnext (balloc (Below.refl w.heap.size w) _) b1
  go_wp2_with fail
  go_ret
  refine ⟨rb ?_, BB⟩
  cases ch <;> simp [s1F, nowF, Bool.and_assoc]
set_option maxHeartbeats 4000000 in
theorem rright_2 (a : Nat) (m me lo fa : Int) (nx : Nat) (du : Int) (ch : Bool) (w : World) (ha : a < 4294967296) (hx : nx < 4294967296) (hg : okOf a m 1 = true) :
    Calls Tryd.prog 18 #[.agg #[.int .u32 a, .int .i64 m, .int .i64 2, .int .i64 me, .int .i64 lo, .int .i64 fa, .int .u32 nx, .int .i64 du, .bool ch]] w fun e w' => e = .returned (.bool (okR a m 2 me lo fa nx du ch)) ∧ Below w.heap.size w w' := by
  have HG := Lib.hid (fun w => refGood_any a m w ha)
  rw [← okOf_one, hg] at HG
  have hok : okR a m 2 me lo fa nx du ch = (mayF fa nx && inF 0 4611686018427387904 du && decide (2 ≤ me) && decide (me ≤ 15) && (lo == 0)) := by
    show (s2F me lo fa nx du && okOf a m 1) = _
    rw [hg, Bool.and_true]
    simp only [s2F, somF, inF_split 2 15, beq_self_eq_true, Bool.true_and, Bool.and_true]
    ac_rfl
  rw [hok]
  have HE := Lib.hid (Blk.new w 31 #[.int .u32 a, .int .i64 m, .int .i64 2, .int .i64 me, .int .i64 lo, .int .i64 fa, .int .u32 nx, .int .i64 du, .bool ch])
  have HS := Lib.hid (fun W => side_any fa nx W hx)
  have HT := Lib.hid (fun W => rtime7_any du W)
  clear ha hg hok hx
  generalize mayF fa nx = x1 at *
  generalize inF 0 4611686018427387904 du = x2 at *
  cases x1
  case false =>
    go_enter Tryd.func18, Tryd.ntmps18
    go_wp2_with fail
    refine (HG.out _).mono ?_
    rintro e w1 ⟨rfl, b1⟩
    have y1 := HE.out.below b1 (by simp)
    have c0 := (y1).cell 0
    have c1 := (y1).cell 1
    have c2 := (y1).cell 2
    have c3 := (y1).cell 3
    have c4 := (y1).cell 4
    have c5 := (y1).cell 5
    have c6 := (y1).cell 6
    have c7 := (y1).cell 7
    have c8 := (y1).cell 8
    simp only [List.getElem?_toArray, List.getElem?_cons_zero, List.getElem?_cons_succ] at c0 c1 c2 c3 c4 c5 c6 c7 c8
    have B1 := bnext (balloc (Below.refl w.heap.size w) _) b1
    clear b1
    go_wp2_with fail
    refine (HS.out _).mono ?_
    rintro e w2 ⟨rfl, b2⟩
    have y2 := y1.below b2 y1.lt
    clear c0 c1 c2 c3 c4 c5 c6 c7 c8
    have c0 := (y2).cell 0
    have c1 := (y2).cell 1
    have c2 := (y2).cell 2
    have c3 := (y2).cell 3
    have c4 := (y2).cell 4
    have c5 := (y2).cell 5
    have c6 := (y2).cell 6
    have c7 := (y2).cell 7
    have c8 := (y2).cell 8
    simp only [List.getElem?_toArray, List.getElem?_cons_zero, List.getElem?_cons_succ] at c0 c1 c2 c3 c4 c5 c6 c7 c8
    have BB := bnext B1 b2
    clear y1 y2 b2
    go_wp2_with (refine (HT.out _).mono ?_; rintro e w2 ⟨rfl, rfl⟩)
    go_ret
    refine ⟨rb ?_, BB⟩
    first | rfl | simp
  case true =>
  cases x2
  case false =>
    go_enter Tryd.func18, Tryd.ntmps18
    go_wp2_with fail
    refine (HG.out _).mono ?_
    rintro e w1 ⟨rfl, b1⟩
    have y1 := HE.out.below b1 (by simp)
    have c0 := (y1).cell 0
    have c1 := (y1).cell 1
    have c2 := (y1).cell 2
    have c3 := (y1).cell 3
    have c4 := (y1).cell 4
    have c5 := (y1).cell 5
    have c6 := (y1).cell 6
    have c7 := (y1).cell 7
    have c8 := (y1).cell 8
    simp only [List.getElem?_toArray, List.getElem?_cons_zero, List.getElem?_cons_succ] at c0 c1 c2 c3 c4 c5 c6 c7 c8
    have B1 := bnext (balloc (Below.refl w.heap.size w) _) b1
    clear b1
    go_wp2_with fail
    refine (HS.out _).mono ?_
    rintro e w2 ⟨rfl, b2⟩
    have y2 := y1.below b2 y1.lt
    clear c0 c1 c2 c3 c4 c5 c6 c7 c8
    have c0 := (y2).cell 0
    have c1 := (y2).cell 1
    have c2 := (y2).cell 2
    have c3 := (y2).cell 3
    have c4 := (y2).cell 4
    have c5 := (y2).cell 5
    have c6 := (y2).cell 6
    have c7 := (y2).cell 7
    have c8 := (y2).cell 8
    simp only [List.getElem?_toArray, List.getElem?_cons_zero, List.getElem?_cons_succ] at c0 c1 c2 c3 c4 c5 c6 c7 c8
    have BB := bnext B1 b2
    clear y1 y2 b2
    go_wp2_with (refine (HT.out _).mono ?_; rintro e w2 ⟨rfl, rfl⟩)
    go_ret
    refine ⟨rb ?_, BB⟩
    first | rfl | simp
  case true =>
  cases h0 : decide (2 ≤ me)
  case false =>
    go_enter Tryd.func18, Tryd.ntmps18
    go_wp2_with fail
    refine (HG.out _).mono ?_
    rintro e w1 ⟨rfl, b1⟩
    have y1 := HE.out.below b1 (by simp)
    have c0 := (y1).cell 0
    have c1 := (y1).cell 1
    have c2 := (y1).cell 2
    have c3 := (y1).cell 3
    have c4 := (y1).cell 4
    have c5 := (y1).cell 5
    have c6 := (y1).cell 6
    have c7 := (y1).cell 7
    have c8 := (y1).cell 8
    simp only [List.getElem?_toArray, List.getElem?_cons_zero, List.getElem?_cons_succ] at c0 c1 c2 c3 c4 c5 c6 c7 c8
    have B1 := bnext (balloc (Below.refl w.heap.size w) _) b1
    clear b1
    go_wp2_with fail
    refine (HS.out _).mono ?_
    rintro e w2 ⟨rfl, b2⟩
    have y2 := y1.below b2 y1.lt
    clear c0 c1 c2 c3 c4 c5 c6 c7 c8
    have c0 := (y2).cell 0
    have c1 := (y2).cell 1
    have c2 := (y2).cell 2
    have c3 := (y2).cell 3
    have c4 := (y2).cell 4
    have c5 := (y2).cell 5
    have c6 := (y2).cell 6
    have c7 := (y2).cell 7
    have c8 := (y2).cell 8
    simp only [List.getElem?_toArray, List.getElem?_cons_zero, List.getElem?_cons_succ] at c0 c1 c2 c3 c4 c5 c6 c7 c8
    have BB := bnext B1 b2
    clear y1 y2 b2
    go_wp2_with (refine (HT.out _).mono ?_; rintro e w2 ⟨rfl, rfl⟩)
    go_ret
    refine ⟨rb ?_, BB⟩
    first | rfl | simp
  case true =>
  cases h1 : decide (me ≤ 15)
  case false =>
    go_enter Tryd.func18, Tryd.ntmps18
    go_wp2_with fail
    refine (HG.out _).mono ?_
    rintro e w1 ⟨rfl, b1⟩
    have y1 := HE.out.below b1 (by simp)
    have c0 := (y1).cell 0
    have c1 := (y1).cell 1
    have c2 := (y1).cell 2
    have c3 := (y1).cell 3
    have c4 := (y1).cell 4
    have c5 := (y1).cell 5
    have c6 := (y1).cell 6
    have c7 := (y1).cell 7
    have c8 := (y1).cell 8
    simp only [List.getElem?_toArray, List.getElem?_cons_zero, List.getElem?_cons_succ] at c0 c1 c2 c3 c4 c5 c6 c7 c8
    have B1 := bnext (balloc (Below.refl w.heap.size w) _) b1
    clear b1
    go_wp2_with fail
    refine (HS.out _).mono ?_
    rintro e w2 ⟨rfl, b2⟩
    have y2 := y1.below b2 y1.lt
    clear c0 c1 c2 c3 c4 c5 c6 c7 c8
    have c0 := (y2).cell 0
    have c1 := (y2).cell 1
    have c2 := (y2).cell 2
    have c3 := (y2).cell 3
    have c4 := (y2).cell 4
    have c5 := (y2).cell 5
    have c6 := (y2).cell 6
    have c7 := (y2).cell 7
    have c8 := (y2).cell 8
    simp only [List.getElem?_toArray, List.getElem?_cons_zero, List.getElem?_cons_succ] at c0 c1 c2 c3 c4 c5 c6 c7 c8
    have BB := bnext B1 b2
    clear y1 y2 b2
    go_wp2_with (refine (HT.out _).mono ?_; rintro e w2 ⟨rfl, rfl⟩)
    go_ret
    refine ⟨rb ?_, BB⟩
    first | rfl | simp
  case true =>
  cases h2 : (lo == 0)
  case false =>
    go_enter Tryd.func18, Tryd.ntmps18
    go_wp2_with fail
    refine (HG.out _).mono ?_
    rintro e w1 ⟨rfl, b1⟩
    have y1 := HE.out.below b1 (by simp)
    have c0 := (y1).cell 0
    have c1 := (y1).cell 1
    have c2 := (y1).cell 2
    have c3 := (y1).cell 3
    have c4 := (y1).cell 4
    have c5 := (y1).cell 5
    have c6 := (y1).cell 6
    have c7 := (y1).cell 7
    have c8 := (y1).cell 8
    simp only [List.getElem?_toArray, List.getElem?_cons_zero, List.getElem?_cons_succ] at c0 c1 c2 c3 c4 c5 c6 c7 c8
    have B1 := bnext (balloc (Below.refl w.heap.size w) _) b1
    clear b1
    go_wp2_with fail
    refine (HS.out _).mono ?_
    rintro e w2 ⟨rfl, b2⟩
    have y2 := y1.below b2 y1.lt
    clear c0 c1 c2 c3 c4 c5 c6 c7 c8
    have c0 := (y2).cell 0
    have c1 := (y2).cell 1
    have c2 := (y2).cell 2
    have c3 := (y2).cell 3
    have c4 := (y2).cell 4
    have c5 := (y2).cell 5
    have c6 := (y2).cell 6
    have c7 := (y2).cell 7
    have c8 := (y2).cell 8
    simp only [List.getElem?_toArray, List.getElem?_cons_zero, List.getElem?_cons_succ] at c0 c1 c2 c3 c4 c5 c6 c7 c8
    have BB := bnext B1 b2
    clear y1 y2 b2
    go_wp2_with (refine (HT.out _).mono ?_; rintro e w2 ⟨rfl, rfl⟩)
    go_ret
    refine ⟨rb ?_, BB⟩
    first | rfl | simp
  case true =>
  go_enter Tryd.func18, Tryd.ntmps18
  go_wp2_with fail
  refine (HG.out _).mono ?_
  rintro e w1 ⟨rfl, b1⟩
  have y1 := HE.out.below b1 (by simp)
  have c0 := (y1).cell 0
  have c1 := (y1).cell 1
  have c2 := (y1).cell 2
  have c3 := (y1).cell 3
  have c4 := (y1).cell 4
  have c5 := (y1).cell 5
  have c6 := (y1).cell 6
  have c7 := (y1).cell 7
  have c8 := (y1).cell 8
  simp only [List.getElem?_toArray, List.getElem?_cons_zero, List.getElem?_cons_succ] at c0 c1 c2 c3 c4 c5 c6 c7 c8
  have B1 := bnext (balloc (Below.refl w.heap.size w) _) b1
  clear b1
  go_wp2_with fail
  refine (HS.out _).mono ?_
  rintro e w2 ⟨rfl, b2⟩
  have y2 := y1.below b2 y1.lt
  clear c0 c1 c2 c3 c4 c5 c6 c7 c8
  have c0 := (y2).cell 0
  have c1 := (y2).cell 1
  have c2 := (y2).cell 2
  have c3 := (y2).cell 3
  have c4 := (y2).cell 4
  have c5 := (y2).cell 5
  have c6 := (y2).cell 6
  have c7 := (y2).cell 7
  have c8 := (y2).cell 8
  simp only [List.getElem?_toArray, List.getElem?_cons_zero, List.getElem?_cons_succ] at c0 c1 c2 c3 c4 c5 c6 c7 c8
  have BB := bnext B1 b2
  clear y1 y2 b2
  go_wp2_with (refine (HT.out _).mono ?_; rintro e w2 ⟨rfl, rfl⟩)
  go_ret
  refine ⟨rb ?_, BB⟩
  first | rfl | simp
set_option maxHeartbeats 4000000 in
theorem rright_3 (a : Nat) (m me lo fa : Int) (nx : Nat) (du : Int) (ch : Bool) (w : World) (ha : a < 4294967296) (hx : nx < 4294967296) (hg : okOf a m 1 = true) :
    Calls Tryd.prog 18 #[.agg #[.int .u32 a, .int .i64 m, .int .i64 3, .int .i64 me, .int .i64 lo, .int .i64 fa, .int .u32 nx, .int .i64 du, .bool ch]] w fun e w' => e = .returned (.bool (okR a m 3 me lo fa nx du ch)) ∧ Below w.heap.size w w' := by
  have HG := Lib.hid (fun w => refGood_any a m w ha)
  rw [← okOf_one, hg] at HG
  have hok : okR a m 3 me lo fa nx du ch = (mayF fa nx && inF 0 4611686018427387904 du && (me == 16) && decide (2 ≤ lo) && decide (lo ≤ 15)) := by
    show (s3F me lo fa nx du && okOf a m 1) = _
    rw [hg, Bool.and_true]
    simp only [s3F, somF, inF_split 2 15, beq_self_eq_true, Bool.true_and, Bool.and_true]
    ac_rfl
  rw [hok]
  have HE := Lib.hid (Blk.new w 31 #[.int .u32 a, .int .i64 m, .int .i64 3, .int .i64 me, .int .i64 lo, .int .i64 fa, .int .u32 nx, .int .i64 du, .bool ch])
  have HS := Lib.hid (fun W => side_any fa nx W hx)
  have HT := Lib.hid (fun W => rtime7_any du W)
  clear ha hg hok hx
  generalize mayF fa nx = x1 at *
  generalize inF 0 4611686018427387904 du = x2 at *
  cases x1
  case false =>
    go_enter Tryd.func18, Tryd.ntmps18
    go_wp2_with fail
    refine (HG.out _).mono ?_
    rintro e w1 ⟨rfl, b1⟩
    have y1 := HE.out.below b1 (by simp)
    have c0 := (y1).cell 0
    have c1 := (y1).cell 1
    have c2 := (y1).cell 2
    have c3 := (y1).cell 3
    have c4 := (y1).cell 4
    have c5 := (y1).cell 5
    have c6 := (y1).cell 6
    have c7 := (y1).cell 7
    have c8 := (y1).cell 8
    simp only [List.getElem?_toArray, List.getElem?_cons_zero, List.getElem?_cons_succ] at c0 c1 c2 c3 c4 c5 c6 c7 c8
    have B1 := bnext (balloc (Below.refl w.heap.size w) _) b1
    clear b1
    go_wp2_with fail
    refine (HS.out _).mono ?_
    rintro e w2 ⟨rfl, b2⟩
    have y2 := y1.below b2 y1.lt
    clear c0 c1 c2 c3 c4 c5 c6 c7 c8
    have c0 := (y2).cell 0
    have c1 := (y2).cell 1
    have c2 := (y2).cell 2
    have c3 := (y2).cell 3
    have c4 := (y2).cell 4
    have c5 := (y2).cell 5
    have c6 := (y2).cell 6
    have c7 := (y2).cell 7
    have c8 := (y2).cell 8
    simp only [List.getElem?_toArray, List.getElem?_cons_zero, List.getElem?_cons_succ] at c0 c1 c2 c3 c4 c5 c6 c7 c8
    have BB := bnext B1 b2
    clear y1 y2 b2
    go_wp2_with (refine (HT.out _).mono ?_; rintro e w2 ⟨rfl, rfl⟩)
    go_ret
    refine ⟨rb ?_, BB⟩
    first | rfl | simp
  case true =>
  cases x2
  case false =>
    go_enter Tryd.func18, Tryd.ntmps18
    go_wp2_with fail
    refine (HG.out _).mono ?_
    rintro e w1 ⟨rfl, b1⟩
    have y1 := HE.out.below b1 (by simp)
    have c0 := (y1).cell 0
    have c1 := (y1).cell 1
    have c2 := (y1).cell 2
    have c3 := (y1).cell 3
    have c4 := (y1).cell 4
    have c5 := (y1).cell 5
    have c6 := (y1).cell 6
    have c7 := (y1).cell 7
    have c8 := (y1).cell 8
    simp only [List.getElem?_toArray, List.getElem?_cons_zero, List.getElem?_cons_succ] at c0 c1 c2 c3 c4 c5 c6 c7 c8
    have B1 := bnext (balloc (Below.refl w.heap.size w) _) b1
    clear b1
    go_wp2_with fail
    refine (HS.out _).mono ?_
    rintro e w2 ⟨rfl, b2⟩
    have y2 := y1.below b2 y1.lt
    clear c0 c1 c2 c3 c4 c5 c6 c7 c8
    have c0 := (y2).cell 0
    have c1 := (y2).cell 1
    have c2 := (y2).cell 2
    have c3 := (y2).cell 3
    have c4 := (y2).cell 4
    have c5 := (y2).cell 5
    have c6 := (y2).cell 6
    have c7 := (y2).cell 7
    have c8 := (y2).cell 8
    simp only [List.getElem?_toArray, List.getElem?_cons_zero, List.getElem?_cons_succ] at c0 c1 c2 c3 c4 c5 c6 c7 c8
    have BB := bnext B1 b2
    clear y1 y2 b2
    go_wp2_with (refine (HT.out _).mono ?_; rintro e w2 ⟨rfl, rfl⟩)
    go_ret
    refine ⟨rb ?_, BB⟩
    first | rfl | simp
  case true =>
  cases h0 : (me == 16)
  case false =>
    go_enter Tryd.func18, Tryd.ntmps18
    go_wp2_with fail
    refine (HG.out _).mono ?_
    rintro e w1 ⟨rfl, b1⟩
    have y1 := HE.out.below b1 (by simp)
    have c0 := (y1).cell 0
    have c1 := (y1).cell 1
    have c2 := (y1).cell 2
    have c3 := (y1).cell 3
    have c4 := (y1).cell 4
    have c5 := (y1).cell 5
    have c6 := (y1).cell 6
    have c7 := (y1).cell 7
    have c8 := (y1).cell 8
    simp only [List.getElem?_toArray, List.getElem?_cons_zero, List.getElem?_cons_succ] at c0 c1 c2 c3 c4 c5 c6 c7 c8
    have B1 := bnext (balloc (Below.refl w.heap.size w) _) b1
    clear b1
    go_wp2_with fail
    refine (HS.out _).mono ?_
    rintro e w2 ⟨rfl, b2⟩
    have y2 := y1.below b2 y1.lt
    clear c0 c1 c2 c3 c4 c5 c6 c7 c8
    have c0 := (y2).cell 0
    have c1 := (y2).cell 1
    have c2 := (y2).cell 2
    have c3 := (y2).cell 3
    have c4 := (y2).cell 4
    have c5 := (y2).cell 5
    have c6 := (y2).cell 6
    have c7 := (y2).cell 7
    have c8 := (y2).cell 8
    simp only [List.getElem?_toArray, List.getElem?_cons_zero, List.getElem?_cons_succ] at c0 c1 c2 c3 c4 c5 c6 c7 c8
    have BB := bnext B1 b2
    clear y1 y2 b2
    go_wp2_with (refine (HT.out _).mono ?_; rintro e w2 ⟨rfl, rfl⟩)
    go_ret
    refine ⟨rb ?_, BB⟩
    first | rfl | simp
  case true =>
  cases h1 : decide (2 ≤ lo)
  case false =>
    go_enter Tryd.func18, Tryd.ntmps18
    go_wp2_with fail
    refine (HG.out _).mono ?_
    rintro e w1 ⟨rfl, b1⟩
    have y1 := HE.out.below b1 (by simp)
    have c0 := (y1).cell 0
    have c1 := (y1).cell 1
    have c2 := (y1).cell 2
    have c3 := (y1).cell 3
    have c4 := (y1).cell 4
    have c5 := (y1).cell 5
    have c6 := (y1).cell 6
    have c7 := (y1).cell 7
    have c8 := (y1).cell 8
    simp only [List.getElem?_toArray, List.getElem?_cons_zero, List.getElem?_cons_succ] at c0 c1 c2 c3 c4 c5 c6 c7 c8
    have B1 := bnext (balloc (Below.refl w.heap.size w) _) b1
    clear b1
    go_wp2_with fail
    refine (HS.out _).mono ?_
    rintro e w2 ⟨rfl, b2⟩
    have y2 := y1.below b2 y1.lt
    clear c0 c1 c2 c3 c4 c5 c6 c7 c8
    have c0 := (y2).cell 0
    have c1 := (y2).cell 1
    have c2 := (y2).cell 2
    have c3 := (y2).cell 3
    have c4 := (y2).cell 4
    have c5 := (y2).cell 5
    have c6 := (y2).cell 6
    have c7 := (y2).cell 7
    have c8 := (y2).cell 8
    simp only [List.getElem?_toArray, List.getElem?_cons_zero, List.getElem?_cons_succ] at c0 c1 c2 c3 c4 c5 c6 c7 c8
    have BB := bnext B1 b2
    clear y1 y2 b2
    go_wp2_with (refine (HT.out _).mono ?_; rintro e w2 ⟨rfl, rfl⟩)
    go_ret
    refine ⟨rb ?_, BB⟩
    first | rfl | simp
  case true =>
  cases h2 : decide (lo ≤ 15)
  case false =>
    go_enter Tryd.func18, Tryd.ntmps18
    go_wp2_with fail
    refine (HG.out _).mono ?_
    rintro e w1 ⟨rfl, b1⟩
    have y1 := HE.out.below b1 (by simp)
    have c0 := (y1).cell 0
    have c1 := (y1).cell 1
    have c2 := (y1).cell 2
    have c3 := (y1).cell 3
    have c4 := (y1).cell 4
    have c5 := (y1).cell 5
    have c6 := (y1).cell 6
    have c7 := (y1).cell 7
    have c8 := (y1).cell 8
    simp only [List.getElem?_toArray, List.getElem?_cons_zero, List.getElem?_cons_succ] at c0 c1 c2 c3 c4 c5 c6 c7 c8
    have B1 := bnext (balloc (Below.refl w.heap.size w) _) b1
    clear b1
    go_wp2_with fail
    refine (HS.out _).mono ?_
    rintro e w2 ⟨rfl, b2⟩
    have y2 := y1.below b2 y1.lt
    clear c0 c1 c2 c3 c4 c5 c6 c7 c8
    have c0 := (y2).cell 0
    have c1 := (y2).cell 1
    have c2 := (y2).cell 2
    have c3 := (y2).cell 3
    have c4 := (y2).cell 4
    have c5 := (y2).cell 5
    have c6 := (y2).cell 6
    have c7 := (y2).cell 7
    have c8 := (y2).cell 8
    simp only [List.getElem?_toArray, List.getElem?_cons_zero, List.getElem?_cons_succ] at c0 c1 c2 c3 c4 c5 c6 c7 c8
    have BB := bnext B1 b2
    clear y1 y2 b2
    go_wp2_with (refine (HT.out _).mono ?_; rintro e w2 ⟨rfl, rfl⟩)
    go_ret
    refine ⟨rb ?_, BB⟩
    first | rfl | simp
  case true =>
  go_enter Tryd.func18, Tryd.ntmps18
  go_wp2_with fail
  refine (HG.out _).mono ?_
  rintro e w1 ⟨rfl, b1⟩
  have y1 := HE.out.below b1 (by simp)
  have c0 := (y1).cell 0
  have c1 := (y1).cell 1
  have c2 := (y1).cell 2
  have c3 := (y1).cell 3
  have c4 := (y1).cell 4
  have c5 := (y1).cell 5
  have c6 := (y1).cell 6
  have c7 := (y1).cell 7
  have c8 := (y1).cell 8
  simp only [List.getElem?_toArray, List.getElem?_cons_zero, List.getElem?_cons_succ] at c0 c1 c2 c3 c4 c5 c6 c7 c8
  have B1 := bnext (balloc (Below.refl w.heap.size w) _) b1
  clear b1
  go_wp2_with fail
  refine (HS.out _).mono ?_
  rintro e w2 ⟨rfl, b2⟩
  have y2 := y1.below b2 y1.lt
  clear c0 c1 c2 c3 c4 c5 c6 c7 c8
  have c0 := (y2).cell 0
  have c1 := (y2).cell 1
  have c2 := (y2).cell 2
  have c3 := (y2).cell 3
  have c4 := (y2).cell 4
  have c5 := (y2).cell 5
  have c6 := (y2).cell 6
  have c7 := (y2).cell 7
  have c8 := (y2).cell 8
  simp only [List.getElem?_toArray, List.getElem?_cons_zero, List.getElem?_cons_succ] at c0 c1 c2 c3 c4 c5 c6 c7 c8
  have BB := bnext B1 b2
  clear y1 y2 b2
  go_wp2_with (refine (HT.out _).mono ?_; rintro e w2 ⟨rfl, rfl⟩)
  go_ret
  refine ⟨rb ?_, BB⟩
  first | rfl | simp
set_option maxHeartbeats 4000000 in
theorem rright_4 (a : Nat) (m me lo fa : Int) (nx : Nat) (du : Int) (ch : Bool) (w : World) (ha : a < 4294967296) (hx : nx < 4294967296) (hg : okOf a m 1 = true) :
    Calls Tryd.prog 18 #[.agg #[.int .u32 a, .int .i64 m, .int .i64 4, .int .i64 me, .int .i64 lo, .int .i64 fa, .int .u32 nx, .int .i64 du, .bool ch]] w fun e w' => e = .returned (.bool (okR a m 4 me lo fa nx du ch)) ∧ Below w.heap.size w w' := by
  have HG := Lib.hid (fun w => refGood_any a m w ha)
  rw [← okOf_one, hg] at HG
  have hok : okR a m 4 me lo fa nx du ch = (mayF fa nx && inF 0 4611686018427387904 du && (me == 16) && (lo == 0)) := by
    show (s4F me lo fa nx du && okOf a m 1) = _
    rw [hg, Bool.and_true]
    simp only [s4F, somF, inF_split 2 15, beq_self_eq_true, Bool.true_and, Bool.and_true]
    ac_rfl
  rw [hok]
  have HE := Lib.hid (Blk.new w 31 #[.int .u32 a, .int .i64 m, .int .i64 4, .int .i64 me, .int .i64 lo, .int .i64 fa, .int .u32 nx, .int .i64 du, .bool ch])
  have HS := Lib.hid (fun W => side_any fa nx W hx)
  have HT := Lib.hid (fun W => rtime7_any du W)
  clear ha hg hok hx
  generalize mayF fa nx = x1 at *
  generalize inF 0 4611686018427387904 du = x2 at *
  cases x1
  case false =>
    go_enter Tryd.func18, Tryd.ntmps18
    go_wp2_with fail
    refine (HG.out _).mono ?_
    rintro e w1 ⟨rfl, b1⟩
    have y1 := HE.out.below b1 (by simp)
    have c0 := (y1).cell 0
    have c1 := (y1).cell 1
    have c2 := (y1).cell 2
    have c3 := (y1).cell 3
    have c4 := (y1).cell 4
    have c5 := (y1).cell 5
    have c6 := (y1).cell 6
    have c7 := (y1).cell 7
    have c8 := (y1).cell 8
    simp only [List.getElem?_toArray, List.getElem?_cons_zero, List.getElem?_cons_succ] at c0 c1 c2 c3 c4 c5 c6 c7 c8
    have B1 := bnext (balloc (Below.refl w.heap.size w) _) b1
    clear b1
    go_wp2_with fail
    refine (HS.out _).mono ?_
    rintro e w2 ⟨rfl, b2⟩
    have y2 := y1.below b2 y1.lt
    clear c0 c1 c2 c3 c4 c5 c6 c7 c8
    have c0 := (y2).cell 0
    have c1 := (y2).cell 1
    have c2 := (y2).cell 2
    have c3 := (y2).cell 3
    have c4 := (y2).cell 4
    have c5 := (y2).cell 5
    have c6 := (y2).cell 6
    have c7 := (y2).cell 7
    have c8 := (y2).cell 8
    simp only [List.getElem?_toArray, List.getElem?_cons_zero, List.getElem?_cons_succ] at c0 c1 c2 c3 c4 c5 c6 c7 c8
    have BB := bnext B1 b2
    clear y1 y2 b2
    go_wp2_with (refine (HT.out _).mono ?_; rintro e w2 ⟨rfl, rfl⟩)
    go_ret
    refine ⟨rb ?_, BB⟩
    first | rfl | simp
  case true =>
  cases x2
  case false =>
    go_enter Tryd.func18, Tryd.ntmps18
    go_wp2_with fail
    refine (HG.out _).mono ?_
    rintro e w1 ⟨rfl, b1⟩
    have y1 := HE.out.below b1 (by simp)
    have c0 := (y1).cell 0
    have c1 := (y1).cell 1
    have c2 := (y1).cell 2
    have c3 := (y1).cell 3
    have c4 := (y1).cell 4
    have c5 := (y1).cell 5
    have c6 := (y1).cell 6
    have c7 := (y1).cell 7
    have c8 := (y1).cell 8
    simp only [List.getElem?_toArray, List.getElem?_cons_zero, List.getElem?_cons_succ] at c0 c1 c2 c3 c4 c5 c6 c7 c8
    have B1 := bnext (balloc (Below.refl w.heap.size w) _) b1
    clear b1
    go_wp2_with fail
    refine (HS.out _).mono ?_
    rintro e w2 ⟨rfl, b2⟩
    have y2 := y1.below b2 y1.lt
    clear c0 c1 c2 c3 c4 c5 c6 c7 c8
    have c0 := (y2).cell 0
    have c1 := (y2).cell 1
    have c2 := (y2).cell 2
    have c3 := (y2).cell 3
    have c4 := (y2).cell 4
    have c5 := (y2).cell 5
    have c6 := (y2).cell 6
    have c7 := (y2).cell 7
    have c8 := (y2).cell 8
    simp only [List.getElem?_toArray, List.getElem?_cons_zero, List.getElem?_cons_succ] at c0 c1 c2 c3 c4 c5 c6 c7 c8
    have BB := bnext B1 b2
    clear y1 y2 b2
    go_wp2_with (refine (HT.out _).mono ?_; rintro e w2 ⟨rfl, rfl⟩)
    go_ret
    refine ⟨rb ?_, BB⟩
    first | rfl | simp
  case true =>
  cases h0 : (me == 16)
  case false =>
    go_enter Tryd.func18, Tryd.ntmps18
    go_wp2_with fail
    refine (HG.out _).mono ?_
    rintro e w1 ⟨rfl, b1⟩
    have y1 := HE.out.below b1 (by simp)
    have c0 := (y1).cell 0
    have c1 := (y1).cell 1
    have c2 := (y1).cell 2
    have c3 := (y1).cell 3
    have c4 := (y1).cell 4
    have c5 := (y1).cell 5
    have c6 := (y1).cell 6
    have c7 := (y1).cell 7
    have c8 := (y1).cell 8
    simp only [List.getElem?_toArray, List.getElem?_cons_zero, List.getElem?_cons_succ] at c0 c1 c2 c3 c4 c5 c6 c7 c8
    have B1 := bnext (balloc (Below.refl w.heap.size w) _) b1
    clear b1
    go_wp2_with fail
    refine (HS.out _).mono ?_
    rintro e w2 ⟨rfl, b2⟩
    have y2 := y1.below b2 y1.lt
    clear c0 c1 c2 c3 c4 c5 c6 c7 c8
    have c0 := (y2).cell 0
    have c1 := (y2).cell 1
    have c2 := (y2).cell 2
    have c3 := (y2).cell 3
    have c4 := (y2).cell 4
    have c5 := (y2).cell 5
    have c6 := (y2).cell 6
    have c7 := (y2).cell 7
    have c8 := (y2).cell 8
    simp only [List.getElem?_toArray, List.getElem?_cons_zero, List.getElem?_cons_succ] at c0 c1 c2 c3 c4 c5 c6 c7 c8
    have BB := bnext B1 b2
    clear y1 y2 b2
    go_wp2_with (refine (HT.out _).mono ?_; rintro e w2 ⟨rfl, rfl⟩)
    go_ret
    refine ⟨rb ?_, BB⟩
    first | rfl | simp
  case true =>
  cases h1 : (lo == 0)
  case false =>
    go_enter Tryd.func18, Tryd.ntmps18
    go_wp2_with fail
    refine (HG.out _).mono ?_
    rintro e w1 ⟨rfl, b1⟩
    have y1 := HE.out.below b1 (by simp)
    have c0 := (y1).cell 0
    have c1 := (y1).cell 1
    have c2 := (y1).cell 2
    have c3 := (y1).cell 3
    have c4 := (y1).cell 4
    have c5 := (y1).cell 5
    have c6 := (y1).cell 6
    have c7 := (y1).cell 7
    have c8 := (y1).cell 8
    simp only [List.getElem?_toArray, List.getElem?_cons_zero, List.getElem?_cons_succ] at c0 c1 c2 c3 c4 c5 c6 c7 c8
    have B1 := bnext (balloc (Below.refl w.heap.size w) _) b1
    clear b1
    go_wp2_with fail
    refine (HS.out _).mono ?_
    rintro e w2 ⟨rfl, b2⟩
    have y2 := y1.below b2 y1.lt
    clear c0 c1 c2 c3 c4 c5 c6 c7 c8
    have c0 := (y2).cell 0
    have c1 := (y2).cell 1
    have c2 := (y2).cell 2
    have c3 := (y2).cell 3
    have c4 := (y2).cell 4
    have c5 := (y2).cell 5
    have c6 := (y2).cell 6
    have c7 := (y2).cell 7
    have c8 := (y2).cell 8
    simp only [List.getElem?_toArray, List.getElem?_cons_zero, List.getElem?_cons_succ] at c0 c1 c2 c3 c4 c5 c6 c7 c8
    have BB := bnext B1 b2
    clear y1 y2 b2
    go_wp2_with (refine (HT.out _).mono ?_; rintro e w2 ⟨rfl, rfl⟩)
    go_ret
    refine ⟨rb ?_, BB⟩
    first | rfl | simp
  case true =>
  go_enter Tryd.func18, Tryd.ntmps18
  go_wp2_with fail
  refine (HG.out _).mono ?_
  rintro e w1 ⟨rfl, b1⟩
  have y1 := HE.out.below b1 (by simp)
  have c0 := (y1).cell 0
  have c1 := (y1).cell 1
  have c2 := (y1).cell 2
  have c3 := (y1).cell 3
  have c4 := (y1).cell 4
  have c5 := (y1).cell 5
  have c6 := (y1).cell 6
  have c7 := (y1).cell 7
  have c8 := (y1).cell 8
  simp only [List.getElem?_toArray, List.getElem?_cons_zero, List.getElem?_cons_succ] at c0 c1 c2 c3 c4 c5 c6 c7 c8
  have B1 := bnext (balloc (Below.refl w.heap.size w) _) b1
  clear b1
  go_wp2_with fail
  refine (HS.out _).mono ?_
  rintro e w2 ⟨rfl, b2⟩
  have y2 := y1.below b2 y1.lt
  clear c0 c1 c2 c3 c4 c5 c6 c7 c8
  have c0 := (y2).cell 0
  have c1 := (y2).cell 1
  have c2 := (y2).cell 2
  have c3 := (y2).cell 3
  have c4 := (y2).cell 4
  have c5 := (y2).cell 5
  have c6 := (y2).cell 6
  have c7 := (y2).cell 7
  have c8 := (y2).cell 8
  simp only [List.getElem?_toArray, List.getElem?_cons_zero, List.getElem?_cons_succ] at c0 c1 c2 c3 c4 c5 c6 c7 c8
  have BB := bnext B1 b2
  clear y1 y2 b2
  go_wp2_with (refine (HT.out _).mono ?_; rintro e w2 ⟨rfl, rfl⟩)
  go_ret
  refine ⟨rb ?_, BB⟩
  first | rfl | simp
theorem rright_any (a : Nat) (m st me lo fa : Int) (nx : Nat) (du : Int) (ch : Bool) (w : World) (ha : a < 4294967296) (hx : nx < 4294967296) :
    Calls Tryd.prog 18 #[.agg #[.int .u32 a, .int .i64 m, .int .i64 st, .int .i64 me, .int .i64 lo, .int .i64 fa, .int .u32 nx, .int .i64 du, .bool ch]] w fun e w' => e = .returned (.bool (okR a m st me lo fa nx du ch)) ∧ Below w.heap.size w w' := by
  cases hg : okOf a m 1
  · rw [show okR a m st me lo fa nx du ch = false by unfold okR; rw [hg, Bool.and_false]]
    exact rright_bad a m st me lo fa nx du ch w ha hg
  by_cases h : 0 ≤ st ∧ st ≤ 4
  · rcases (by omega : st = 0 ∨ st = 1 ∨ st = 2 ∨ st = 3 ∨ st = 4) with rfl | rfl | rfl | rfl | rfl
    · exact rright_0 a m me lo fa nx du ch w ha hg
    · exact rright_1 a m me lo fa nx du ch w ha hg
    · exact rright_2 a m me lo fa nx du ch w ha hx hg
    · exact rright_3 a m me lo fa nx du ch w ha hx hg
    · exact rright_4 a m me lo fa nx du ch w ha hx hg
  · rw [okR_st a m st me lo fa nx du ch h]
    exact rright_st a m st me lo fa nx du ch w ha hg (by simp; omega) (by simp; omega) (by simp; omega) (by simp; omega) (by simp; omega)
end Go.Proofs.YtgjeejdebneoaaaDoor
