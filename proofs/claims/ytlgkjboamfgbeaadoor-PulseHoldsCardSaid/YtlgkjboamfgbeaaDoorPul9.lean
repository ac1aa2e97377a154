/- pulse: the document's Begin, Change, Tick, Next. -/
import Derived.Test.YtlgkjboamfgbeaaDoorPul8
namespace Go.Proofs.YtlgkjboamfgbeaaDoor
set_option linter.unusedVariables false
set_option linter.unusedSimpArgs false
open Go.RowKit
set_option maxRecDepth 100000

theorem rnext_any (du un : Int) (wt : Bool) (w : World) :
    Calls Tryd.prog 17 #[.agg #[.int .i64 du, .int .i64 un, .bool wt]] w fun e w' => e = .returned (.int .i64 (nxtF du un wt)) ∧ Below w.heap.size w w' := by
  have HM := Lib.hid (fun W => rright15_any du un wt W)
  have x0 := Blk.new w 28 #[.int .i64 du, .int .i64 un, .bool wt]
  have HX := Lib.hid (show nxtF du un wt = if okT du && okT un then (if wt then min du un else du) else 0 from rfl)
  generalize nxtF du un wt = r at *
  generalize (okT du && okT un) = ok at *
  cases ok
  · rw [if_neg (by simp)] at HX
    go_enter Tryd.func17, Tryd.ntmps17
    go_wp2_with fail
    refine (HM.out _).mono ?_
    rintro e w1 ⟨rfl, b1⟩
    go_wp2_with fail
    go_ret
    exact ⟨ret_num HX.out.symm, bnext (balloc (Below.refl _ _) _) b1⟩
  · rw [if_pos rfl] at HX
    cases wt
    · rw [if_neg (by simp)] at HX
      go_enter Tryd.func17, Tryd.ntmps17
      go_wp2_with fail
      refine (HM.out _).mono ?_
      rintro e w1 ⟨rfl, b1⟩
      have y0 := x0.below b1 x0.lt
      have d0 := (y0).cell 0
      have d1 := (y0).cell 1
      have d2 := (y0).cell 2
      simp only [List.getElem?_toArray, List.getElem?_cons_zero, List.getElem?_cons_succ] at d0 d1 d2
      clear x0 y0
      go_wp2_with fail
      go_ret
      exact ⟨ret_num HX.out.symm, bnext (balloc (Below.refl _ _) _) b1⟩
    · rw [if_pos rfl] at HX
      go_enter Tryd.func17, Tryd.ntmps17
      go_wp2_with fail
      refine (HM.out _).mono ?_
      rintro e w1 ⟨rfl, b1⟩
      have y0 := x0.below b1 x0.lt
      have d0 := (y0).cell 0
      have d1 := (y0).cell 1
      have d2 := (y0).cell 2
      simp only [List.getElem?_toArray, List.getElem?_cons_zero, List.getElem?_cons_succ] at d0 d1 d2
      clear x0 y0
      go_wp2_with fail
      all_goals
        go_ret
        exact ⟨ret_num (by rw [HX.out]; omega), bnext (balloc (Below.refl _ _) _) b1⟩

section
variable (p j t h g q s cp : Int) (A : Option Addr) (n k : Nat) (du un nw dr : Int) (wt : Bool) (w : World) (hp : 0 ≤ p ∧ p ≤ 1000000) (hj : 0 ≤ j ∧ j ≤ 1000000) (hq : 0 ≤ q ∧ q ≤ 1000000) (hs : 0 ≤ s ∧ s ≤ 1000000) (hnw : okN nw = true)

set_option maxHeartbeats 1000000 in
include hp hj hnw in
theorem rbegin_any :
    Calls Tryd.prog 13 #[.agg #[.int .i64 p, .int .i64 j, .int .i64 t, .int .i64 h, .int .i64 g, .int .i64 q, .int .i64 s, .int .i64 cp, .slice A n k], .int .i64 nw, .int .i64 dr] w fun e w' => e = .returned (.agg #[.int .i64 (nw + (p + max 0 (min dr j))), .int .i64 nw, .bool false]) ∧ Below w.heap.size w w' := by
  have hN : 0 ≤ nw ∧ nw ≤ 4611686018425387904 := of_decide_eq_true hnw
  have HW := Lib.hid (fun W => rwait_any p j t h g q s cp dr A n k W hp hj)
  have h1 : 0 ≤ p + max 0 (min dr j) ∧ p + max 0 (min dr j) ≤ 2000000 := by omega
  have x1 := Blk.new (w.alloc (.cells #[.int .i64 p, .int .i64 j, .int .i64 t, .int .i64 h, .int .i64 g, .int .i64 q, .int .i64 s, .int .i64 cp, .slice A n k] 24)) 28 #[.int .i64 0, .int .i64 0, .bool false]
  rw [World.size_alloc] at x1
  have X1 := Lib.hid x1
  clear hnw x1 hp hj
  generalize p + max 0 (min dr j) = y at *
  go_enter Tryd.func13, Tryd.ntmps13
  go_wp2_with fail
  refine (HW.out _).mono ?_
  rintro e w1 ⟨rfl, b1⟩
  have y1 := X1.out.below b1 X1.out.lt
  have BB := bnext (balloc (balloc (Below.refl _ w) _) _) b1
  have d0 := (y1).cell 0
  have d1 := (y1).cell 1
  have d2 := (y1).cell 2
  simp only [List.getElem?_toArray, List.getElem?_cons_zero, List.getElem?_cons_succ] at d0 d1 d2
  have f0 := y1.frozen 0
  have f1 := y1.frozen 1
  have f2 := y1.frozen 2
  go_wp2_with fail
  have z := ((y1.set 0 (.int .i64 (nw + y))).set 1 (.int .i64 nw)).set 2 (.bool false)
  simp only [List.setIfInBounds_toArray, List.set_cons_zero, List.set_cons_succ] at z
  have bz := ((BB.setCell (p := ⟨w.heap.size + 1, 0, none⟩) (by show w.heap.size ≤ w.heap.size + 1; omega) (.int .i64 (nw + y))).setCell (p := ⟨w.heap.size + 1, 1, none⟩) (by show w.heap.size ≤ w.heap.size + 1; omega) (.int .i64 nw)).setCell (p := ⟨w.heap.size + 1, 2, none⟩) (by show w.heap.size ≤ w.heap.size + 1; omega) (.bool false)
  clear d0 d1 d2
  clear y1 BB f0 f1 f2 X1
  have d0 := (z).cell 0
  have d1 := (z).cell 1
  have d2 := (z).cell 2
  simp only [List.getElem?_toArray, List.getElem?_cons_zero, List.getElem?_cons_succ] at d0 d1 d2
  clear z
  generalize (((w1.setCell ⟨w.heap.size + 1, 0, none⟩ (.int .i64 (nw + y))).setCell ⟨w.heap.size + 1, 1, none⟩ (.int .i64 nw)).setCell ⟨w.heap.size + 1, 2, none⟩ (.bool false)) = wz at *
  exact bodyPost_ret (v := .agg #[.int .i64 (nw + y), .int .i64 nw, .bool false]) (by simp [results, Tryd.results13, go_sem, d0, d1, d2]) rfl ⟨rfl, bz⟩
end
end Go.Proofs.YtlgkjboamfgbeaaDoor
