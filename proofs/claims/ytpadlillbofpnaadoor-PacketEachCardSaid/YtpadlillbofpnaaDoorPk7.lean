/- packet: AsksAll, Same; a list cut into pieces. -/
import Derived.Test.YtpadlillbofpnaaDoorPk6
import Derived.Test.YtpadlillbofpnaaDoorEnt4
namespace Go.Proofs.YtpadlillbofpnaaDoor
set_option linter.unusedVariables false
set_option linter.unusedSimpArgs false
open Go.RowKit
set_option maxRecDepth 100000
def erAll : Er := ⟨0, 0, 0, 0, 0, 16⟩
def asksB (c : Int) (l : List Er) : Bool := decide (c = 1) && decide (l = [erAll])

set_option maxHeartbeats 2000000 in
theorem asks_any (cm : Int) (l : List Er) (n c : Nat) (hn : l.length = n) (A : Option Addr) (w : World) (hr : Rd w w.heap.size A (erC l)) :
    Calls Tryd.prog 19 #[.agg #[.int .i64 cm, .slice A n c]] w fun e w' => e = .returned (.bool (asksB cm l)) ∧ Below w.heap.size w w' := by
  have hb1 : Below w.heap.size w (w.alloc (.cells #[.int .i64 cm, .slice A n c] 27)) := balloc (Below.refl _ _) _
  have hx := Blk.new w 27 #[.int .i64 cm, .slice A n c]
  obtain ⟨w1, hw1⟩ : ∃ w1, w1 = w.alloc (.cells #[.int .i64 cm, .slice A n c] 27) := ⟨_, rfl⟩
  rw [← hw1] at hb1 hx
  have HW1 := Lib.hid hw1
  have d0 := fun v : Sub w1 => ((hx).below v.2 (hx).lt).cell 0
  have d1 := fun v : Sub w1 => ((hx).below v.2 (hx).lt).cell 1
  simp only [List.getElem?_toArray, List.getElem?_cons_zero, List.getElem?_cons_succ] at d0 d1
  have hne : Nonempty (Sub w1) := ⟨⟨_, Below.refl _ _⟩⟩
  have HB1 := Lib.hid hb1
  have HAL := Lib.hid (fun v : Sub w1 => all_any v.1)
  have hc1 : (cm == 1) = decide (cm = 1) := by by_cases h : cm = 1 <;> simp [h]
  by_cases h1 : cm = 1
  case neg =>
    have g1 : (cm == 1) = false := by rw [beq_eq_false_iff_ne]; exact h1
    rw [show asksB cm l = false by unfold asksB; rw [decide_eq_false h1]; rfl]
    clear hw1 hx hb1 hr hn h1 hc1
    go_enter Tryd.func19, Tryd.ntmps19
    go_wp2_with fail
    rw [← HW1.out]
    refine region_sub (by kernel_rfl) (by kernel_rfl) ?_
    repeat (first | go_big_quiet_step (((fail))) | quiet_step (((fail))))
    refine wpQuiet_nil ?_
    rintro _ ⟨v, rfl⟩
    go_wp2_with fail
    go_ret
    exact ⟨rfl, bnext HB1.out v.2⟩
  case pos =>
    subst h1
    by_cases hn1 : n = 1
    case neg =>
      have g2 : ((n : Int) == 1) = false := by rw [beq_eq_false_iff_ne]; omega
      rw [show asksB 1 l = false by unfold asksB; rw [decide_eq_false (p := l = [erAll]) (fun h => hn1 (by rw [← hn, h]; rfl))]; rfl]
      clear hw1 hx hb1 hr hn hc1
      go_enter Tryd.func19, Tryd.ntmps19
      go_wp2_with fail
      rw [← HW1.out]
      refine region_sub (by kernel_rfl) (by kernel_rfl) ?_
      repeat (first | go_big_quiet_step (((fail))) | quiet_step (((fail))))
      refine wpQuiet_nil ?_
      rintro _ ⟨v, rfl⟩
      go_wp2_with fail
      go_ret
      exact ⟨rfl, bnext HB1.out v.2⟩
    case pos =>
      subst hn1
      match l, hn with
      | [x], _ =>
        obtain ⟨b, off, rfl, hbb, q0, q1, q2, q3, q4, q5⟩ := er_at hr (i := 0) (x := x) rfl
        rw [Nat.zero_mul, Nat.add_zero] at q0 q1 q2 q3 q4 q5
        have hq : ∀ (v : Sub w1) i u, w.cell? ⟨b, off + i, none⟩ = some u → v.1.cell? ⟨b, off + i, none⟩ = some u := fun v i u h => ((hb1.trans (v.2.mono hb1.size)).cell (p := ⟨b, off + i, none⟩) hbb).trans h
        have e0 := fun v : Sub w1 => hq v 0 _ q0
        have e1 := fun v : Sub w1 => hq v 1 _ q1
        have e2 := fun v : Sub w1 => hq v 2 _ q2
        have e3 := fun v : Sub w1 => hq v 3 _ q3
        have e4 := fun v : Sub w1 => hq v 4 _ q4
        have e5 := fun v : Sub w1 => hq v 5 _ q5
        simp only [Nat.add_zero] at e0
        have hEQ := eq_ent x.f x.t x.a x.m x.x x.k 0 0 0 0 0 16
        have hbe := er_beq x erAll
        simp only [erAll] at hbe
        have hbe' : (x.f == 0 && x.t == 0 && (x.a : Int) == 0 && (x.m : Int) == 0 && (x.x : Int) == 0 && (x.k : Int) == 16) = decide (x = erAll) := hbe
        rw [hbe'] at hEQ
        have has : asksB 1 [x] = decide (x = erAll) := by
          unfold asksB
          by_cases h : x = erAll
          · subst h; rfl
          · rw [decide_eq_false h, decide_eq_false (p := [x] = [erAll]) (fun hh => h (List.cons.inj hh).1)]; rfl
        rw [has]
        clear hw1 hx hb1 hr hc1 hq q0 q1 q2 q3 q4 q5 hbe hbe' has
        generalize decide (x = erAll) = rr at *
        go_enter Tryd.func19, Tryd.ntmps19
        go_wp2_with fail
        rw [← HW1.out]
        refine region_sub (by kernel_rfl) (by kernel_rfl) ?_
        repeat (first | go_big_quiet_step (((go_at_call 39; exact sub_below (HAL.out _)))) | quiet_step (((go_at_call 39; exact sub_below (HAL.out _)))))
        refine wpQuiet_nil ?_
        rintro _ ⟨v, rfl⟩
        go_wp2_with fail
        go_ret
        exact ⟨rfl, bnext HB1.out v.2⟩

set_option maxHeartbeats 2000000 in
theorem refasks_any (cm : Int) (l : List Er) (n c : Nat) (hn : l.length = n) (A : Option Addr) (w : World) (hr : Rd w w.heap.size A (erC l)) :
    Calls Tryd.prog 20 #[.agg #[.int .i64 cm, .slice A n c]] w fun e w' => e = .returned (.bool (asksB cm l)) ∧ Below w.heap.size w w' := by
  have hb1 : Below w.heap.size w (w.alloc (.cells #[.int .i64 cm, .slice A n c] 27)) := balloc (Below.refl _ _) _
  have hx := Blk.new w 27 #[.int .i64 cm, .slice A n c]
  obtain ⟨w1, hw1⟩ : ∃ w1, w1 = w.alloc (.cells #[.int .i64 cm, .slice A n c] 27) := ⟨_, rfl⟩
  rw [← hw1] at hb1 hx
  have HW1 := Lib.hid hw1
  have d0 := fun v : Sub w1 => ((hx).below v.2 (hx).lt).cell 0
  have d1 := fun v : Sub w1 => ((hx).below v.2 (hx).lt).cell 1
  simp only [List.getElem?_toArray, List.getElem?_cons_zero, List.getElem?_cons_succ] at d0 d1
  have hne : Nonempty (Sub w1) := ⟨⟨_, Below.refl _ _⟩⟩
  have HB1 := Lib.hid hb1
  have HAL := Lib.hid (fun v : Sub w1 => refAll_any v.1)
  have hc1 : (cm == 1) = decide (cm = 1) := by by_cases h : cm = 1 <;> simp [h]
  by_cases h1 : cm = 1
  case neg =>
    have g1 : (cm == 1) = false := by rw [beq_eq_false_iff_ne]; exact h1
    rw [show asksB cm l = false by unfold asksB; rw [decide_eq_false h1]; rfl]
    clear hw1 hx hb1 hr hn h1 hc1
    go_enter Tryd.func20, Tryd.ntmps20
    go_wp2_with fail
    rw [← HW1.out]
    refine region_sub (by kernel_rfl) (by kernel_rfl) ?_
    repeat (first | go_big_quiet_step (((fail))) | quiet_step (((fail))))
    refine wpQuiet_nil ?_
    rintro _ ⟨v, rfl⟩
    go_wp2_with fail
    go_ret
    exact ⟨rfl, bnext HB1.out v.2⟩
  case pos =>
    subst h1
    by_cases hn1 : n = 1
    case neg =>
      have g2 : ((n : Int) == 1) = false := by rw [beq_eq_false_iff_ne]; omega
      rw [show asksB 1 l = false by unfold asksB; rw [decide_eq_false (p := l = [erAll]) (fun h => hn1 (by rw [← hn, h]; rfl))]; rfl]
      clear hw1 hx hb1 hr hn hc1
      go_enter Tryd.func20, Tryd.ntmps20
      go_wp2_with fail
      rw [← HW1.out]
      refine region_sub (by kernel_rfl) (by kernel_rfl) ?_
      repeat (first | go_big_quiet_step (((fail))) | quiet_step (((fail))))
      refine wpQuiet_nil ?_
      rintro _ ⟨v, rfl⟩
      go_wp2_with fail
      go_ret
      exact ⟨rfl, bnext HB1.out v.2⟩
    case pos =>
      subst hn1
      match l, hn with
      | [x], _ =>
        obtain ⟨b, off, rfl, hbb, q0, q1, q2, q3, q4, q5⟩ := er_at hr (i := 0) (x := x) rfl
        rw [Nat.zero_mul, Nat.add_zero] at q0 q1 q2 q3 q4 q5
        have hq : ∀ (v : Sub w1) i u, w.cell? ⟨b, off + i, none⟩ = some u → v.1.cell? ⟨b, off + i, none⟩ = some u := fun v i u h => ((hb1.trans (v.2.mono hb1.size)).cell (p := ⟨b, off + i, none⟩) hbb).trans h
        have e0 := fun v : Sub w1 => hq v 0 _ q0
        have e1 := fun v : Sub w1 => hq v 1 _ q1
        have e2 := fun v : Sub w1 => hq v 2 _ q2
        have e3 := fun v : Sub w1 => hq v 3 _ q3
        have e4 := fun v : Sub w1 => hq v 4 _ q4
        have e5 := fun v : Sub w1 => hq v 5 _ q5
        simp only [Nat.add_zero] at e0
        have hEQ := eq_ent x.f x.t x.a x.m x.x x.k 0 0 0 0 0 16
        have hbe := er_beq x erAll
        simp only [erAll] at hbe
        have hbe' : (x.f == 0 && x.t == 0 && (x.a : Int) == 0 && (x.m : Int) == 0 && (x.x : Int) == 0 && (x.k : Int) == 16) = decide (x = erAll) := hbe
        rw [hbe'] at hEQ
        have has : asksB 1 [x] = decide (x = erAll) := by
          unfold asksB
          by_cases h : x = erAll
          · subst h; rfl
          · rw [decide_eq_false h, decide_eq_false (p := [x] = [erAll]) (fun hh => h (List.cons.inj hh).1)]; rfl
        rw [has]
        clear hw1 hx hb1 hr hc1 hq q0 q1 q2 q3 q4 q5 hbe hbe' has
        generalize decide (x = erAll) = rr at *
        go_enter Tryd.func20, Tryd.ntmps20
        go_wp2_with fail
        rw [← HW1.out]
        refine region_sub (by kernel_rfl) (by kernel_rfl) ?_
        repeat (first | go_big_quiet_step (((go_at_call 40; exact sub_below (HAL.out _)))) | quiet_step (((go_at_call 40; exact sub_below (HAL.out _)))))
        refine wpQuiet_nil ?_
        rintro _ ⟨v, rfl⟩
        go_wp2_with fail
        go_ret
        exact ⟨rfl, bnext HB1.out v.2⟩

set_option maxHeartbeats 1000000 in
theorem pksame_any (cm cm' : Int) (l l' : List Er) (n n' c c' : Nat) (hn : l.length = n) (hn' : l'.length = n') (A A' : Option Addr) (w : World) (hr : Rd w w.heap.size A (erC l)) (hr' : Rd w w.heap.size A' (erC l')) (hc : n ≤ 9223372036854775807) :
    Calls Tryd.prog 22 #[.agg #[.int .i64 cm, .slice A n c], .agg #[.int .i64 cm', .slice A' n' c']] w fun e w' => e = .returned (.bool (decide (cm = cm' ∧ l = l'))) ∧ Below w.heap.size w w' := by
  have hb : Below w.heap.size w ((w.alloc (.cells #[.int .i64 cm, .slice A n c] 27)).alloc (.cells #[.int .i64 cm', .slice A' n' c'] 27)) := balloc (balloc (Below.refl _ _) _) _
  have HQ := Lib.hid (erequal_any l l' n n' c c' w.heap.size w.heap.size hn hn' A A' _ (hr.below hb) (hr'.below hb) hc)
  have HB := Lib.hid hb
  clear hr hr' hn hn' hb
  by_cases h : cm = cm'
  · subst h
    rw [show decide (cm = cm ∧ l = l') = decide (l = l') from decide_eq_decide.2 ⟨fun h => h.2, fun h => ⟨rfl, h⟩⟩]
    have g : (cm == cm) = true := by simp
    generalize decide (l = l') = rr at *
    go_enter Tryd.func22, Tryd.ntmps22
    go_wp2_with (go_at_call 42; refine HQ.out.mono ?_; rintro e w' ⟨rfl, m, rfl⟩)
    go_ret
    exact ⟨rfl, below_drewN HB.out _⟩
  · have g : (cm == cm') = false := by rw [beq_eq_false_iff_ne]; exact h
    rw [decide_eq_false (fun hh => h hh.1)]
    clear h
    go_enter Tryd.func22, Tryd.ntmps22
    go_wp2_with fail
    go_ret
    exact ⟨rfl, HB.out⟩

set_option maxHeartbeats 1000000 in
theorem refpksame_any (cm cm' : Int) (l l' : List Er) (n n' c c' : Nat) (hn : l.length = n) (hn' : l'.length = n') (A A' : Option Addr) (w : World) (hr : Rd w w.heap.size A (erC l)) (hr' : Rd w w.heap.size A' (erC l')) (hc : n ≤ 9223372036854775807) :
    Calls Tryd.prog 11 #[.agg #[.int .i64 cm, .slice A n c], .agg #[.int .i64 cm', .slice A' n' c']] w fun e w' => e = .returned (.bool (decide (cm = cm' ∧ l = l'))) ∧ Below w.heap.size w w' := by
  have hb : Below w.heap.size w ((w.alloc (.cells #[.int .i64 cm, .slice A n c] 27)).alloc (.cells #[.int .i64 cm', .slice A' n' c'] 27)) := balloc (balloc (Below.refl _ _) _) _
  have HQ := Lib.hid (ersame_any l l' n n' c c' w.heap.size w.heap.size hn hn' A A' _ (hr.below hb) (hr'.below hb) hc)
  have HB := Lib.hid hb
  clear hr hr' hn hn' hb
  by_cases h : cm = cm'
  · subst h
    rw [show decide (cm = cm ∧ l = l') = decide (l = l') from decide_eq_decide.2 ⟨fun h => h.2, fun h => ⟨rfl, h⟩⟩]
    have g : (cm == cm) = true := by simp
    generalize decide (l = l') = rr at *
    go_enter Tryd.func11, Tryd.ntmps11
    go_wp2_with (go_at_call 17; refine HQ.out.mono ?_; rintro e w' ⟨rfl, m, rfl⟩)
    go_ret
    exact ⟨rfl, below_drewN HB.out _⟩
  · have g : (cm == cm') = false := by rw [beq_eq_false_iff_ne]; exact h
    rw [decide_eq_false (fun hh => h hh.1)]
    clear h
    go_enter Tryd.func11, Tryd.ntmps11
    go_wp2_with fail
    go_ret
    exact ⟨rfl, HB.out⟩
end Go.Proofs.YtpadlillbofpnaaDoor
