/- ref08.Same. -/
import Derived.Test.YtcinggnhfgkahaaDoorCfgB
namespace Go.Proofs.YtcinggnhfgkahaaDoor
set_option linter.unusedVariables false
set_option linter.unusedSimpArgs false
open Go.RowKit
set_option maxRecDepth 100000

set_option maxHeartbeats 2000000 in
theorem rsame8_any (p j t h g q s cp p' j' t' h' g' q' s' cp' : Int) (A A' : Option Addr) (n n' k k' : Nat) (l m : List (Nat × Int)) (hn : l.length = n) (hn' : m.length = n') (w : World) (hr : Rd w w.heap.size A (plC l)) (hr' : Rd w w.heap.size A' (plC m)) (h63 : n ≤ 9223372036854775806) :
    Calls Tryd.prog 17 #[.agg #[.int .i64 p, .int .i64 j, .int .i64 t, .int .i64 h, .int .i64 g, .int .i64 q, .int .i64 s, .int .i64 cp, .slice A n k], .agg #[.int .i64 p', .int .i64 j', .int .i64 t', .int .i64 h', .int .i64 g', .int .i64 q', .int .i64 s', .int .i64 cp', .slice A' n' k']] w fun e w' => e = .returned (.bool ((p == p' && j == j' && t == t' && h == h' && g == g' && q == q' && s == s') && cp == cp' && decide (l = m))) ∧ Below w.heap.size w w' := by
  have hEq := eq_arr7 p j t h g q s p' j' t' h' g' q' s'
  generalize (p == p' && j == j' && t == t' && h == h' && g == g' && q == q' && s == s') = b1 at *
  have HSP := Lib.hid (fun W => rspans_any p j t h g q s cp A n k W)
  have HSQ := Lib.hid (fun W => rspans_any p' j' t' h' g' q' s' cp' A' n' k' W)
  have HPS := Lib.hid (fun W (hb : Below w.heap.size w W) => psame_any l m n n' hn hn' A A' k k' W ((hr.below hb).more hb.size) ((hr'.below hb).more hb.size) h63)
  generalize decide (l = m) = b3 at *
  have hB0 : Below w.heap.size w ((w.alloc (.cells #[.int .i64 p, .int .i64 j, .int .i64 t, .int .i64 h, .int .i64 g, .int .i64 q, .int .i64 s, .int .i64 cp, .slice A n k] 24)).alloc (.cells #[.int .i64 p', .int .i64 j', .int .i64 t', .int .i64 h', .int .i64 g', .int .i64 q', .int .i64 s', .int .i64 cp', .slice A' n' k'] 24)) := balloc (balloc (Below.refl _ _) _) _
  have x0 := (Blk.new w 24 #[.int .i64 p, .int .i64 j, .int .i64 t, .int .i64 h, .int .i64 g, .int .i64 q, .int .i64 s, .int .i64 cp, .slice A n k]).alloc (.cells #[.int .i64 p', .int .i64 j', .int .i64 t', .int .i64 h', .int .i64 g', .int .i64 q', .int .i64 s', .int .i64 cp', .slice A' n' k'] 24)
  have x1 := Blk.new (w.alloc (.cells #[.int .i64 p, .int .i64 j, .int .i64 t, .int .i64 h, .int .i64 g, .int .i64 q, .int .i64 s, .int .i64 cp, .slice A n k] 24)) 24 #[.int .i64 p', .int .i64 j', .int .i64 t', .int .i64 h', .int .i64 g', .int .i64 q', .int .i64 s', .int .i64 cp', .slice A' n' k']
  rw [World.size_alloc] at x1
  obtain ⟨w0, hw0⟩ : ∃ w0, w0 = (w.alloc (.cells #[.int .i64 p, .int .i64 j, .int .i64 t, .int .i64 h, .int .i64 g, .int .i64 q, .int .i64 s, .int .i64 cp, .slice A n k] 24)).alloc (.cells #[.int .i64 p', .int .i64 j', .int .i64 t', .int .i64 h', .int .i64 g', .int .i64 q', .int .i64 s', .int .i64 cp', .slice A' n' k'] 24) := ⟨_, rfl⟩
  rw [← hw0] at x0 x1 hB0
  have HW0 := Lib.hid hw0
  have c0 := fun v : Sub w0 => ((x0).below v.2 (x0).lt).cell 0
  have c1 := fun v : Sub w0 => ((x0).below v.2 (x0).lt).cell 1
  have c2 := fun v : Sub w0 => ((x0).below v.2 (x0).lt).cell 2
  have c3 := fun v : Sub w0 => ((x0).below v.2 (x0).lt).cell 3
  have c4 := fun v : Sub w0 => ((x0).below v.2 (x0).lt).cell 4
  have c5 := fun v : Sub w0 => ((x0).below v.2 (x0).lt).cell 5
  have c6 := fun v : Sub w0 => ((x0).below v.2 (x0).lt).cell 6
  have c7 := fun v : Sub w0 => ((x0).below v.2 (x0).lt).cell 7
  have c8 := fun v : Sub w0 => ((x0).below v.2 (x0).lt).cell 8
  simp only [List.getElem?_toArray, List.getElem?_cons_zero, List.getElem?_cons_succ] at c0 c1 c2 c3 c4 c5 c6 c7 c8
  have d0 := fun v : Sub w0 => ((x1).below v.2 (x1).lt).cell 0
  have d1 := fun v : Sub w0 => ((x1).below v.2 (x1).lt).cell 1
  have d2 := fun v : Sub w0 => ((x1).below v.2 (x1).lt).cell 2
  have d3 := fun v : Sub w0 => ((x1).below v.2 (x1).lt).cell 3
  have d4 := fun v : Sub w0 => ((x1).below v.2 (x1).lt).cell 4
  have d5 := fun v : Sub w0 => ((x1).below v.2 (x1).lt).cell 5
  have d6 := fun v : Sub w0 => ((x1).below v.2 (x1).lt).cell 6
  have d7 := fun v : Sub w0 => ((x1).below v.2 (x1).lt).cell 7
  have d8 := fun v : Sub w0 => ((x1).below v.2 (x1).lt).cell 8
  simp only [List.getElem?_toArray, List.getElem?_cons_zero, List.getElem?_cons_succ] at d0 d1 d2 d3 d4 d5 d6 d7 d8
  have hne : Nonempty (Sub w0) := ⟨⟨_, Below.refl _ _⟩⟩
  have HB0 := Lib.hid hB0
  clear hw0 hr hr' hn hn' x0 x1 hB0
  cases b1
  case' true => cases hcp : (cp == cp')
  all_goals
    go_enter Tryd.func17, Tryd.ntmps17
    go_wp2_with fail
    rw [← HW0.out]
    refine region_sub (by kernel_rfl) (by kernel_rfl) ?_
    repeat (first | go_big_quiet_step (((first | (go_at_call 24; with_reducible (first | exact sub_below (HSP.out _) | exact sub_below (HSQ.out _))) | (go_at_call 29; exact sub_below (HPS.out _ (bnext HB0.out (Sub.le _))))))) | quiet_step (((first | (go_at_call 24; with_reducible (first | exact sub_below (HSP.out _) | exact sub_below (HSQ.out _))) | (go_at_call 29; exact sub_below (HPS.out _ (bnext HB0.out (Sub.le _))))))))
    refine wpQuiet_nil ?_
    rintro _ ⟨v, rfl⟩
    go_wp2_with fail
    go_ret
    exact ⟨ret_bool (by simp), bnext HB0.out v.2⟩
end Go.Proofs.YtcinggnhfgkahaaDoor
