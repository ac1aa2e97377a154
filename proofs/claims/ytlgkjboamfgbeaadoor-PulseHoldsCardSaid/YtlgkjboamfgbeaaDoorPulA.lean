/- pulse: the document's Change and Tick. -/
import Derived.Test.YtlgkjboamfgbeaaDoorPul9
namespace Go.Proofs.YtlgkjboamfgbeaaDoor
set_option linter.unusedVariables false
set_option linter.unusedSimpArgs false
open Go.RowKit
set_option maxRecDepth 100000
/-- a pulse is handed back, and what is told -/
def GivesR (y : (Int × Int × Bool) × Int) (w : World) (e : Ending) (w' : World) : Prop := e = .returned (.tuple #[.agg #[.int .i64 y.1.1, .int .i64 y.1.2.1, .bool y.1.2.2], .int .i64 y.2]) ∧ Below w.heap.size w w'
section
variable (p j t h g q s cp : Int) (A : Option Addr) (n k : Nat) (du un nw dr : Int) (wt : Bool) (w : World) (hp : 0 ≤ p ∧ p ≤ 1000000) (hj : 0 ≤ j ∧ j ≤ 1000000) (hq : 0 ≤ q ∧ q ≤ 1000000) (hs : 0 ≤ s ∧ s ≤ 1000000) (hnw : okN nw = true)

set_option maxHeartbeats 2000000 in
include hq hs hnw in
theorem rchange_any :
    Calls Tryd.prog 18 #[.agg #[.int .i64 p, .int .i64 j, .int .i64 t, .int .i64 h, .int .i64 g, .int .i64 q, .int .i64 s, .int .i64 cp, .slice A n k], .agg #[.int .i64 du, .int .i64 un, .bool wt], .int .i64 nw, .int .i64 dr] w (GivesR (chgF q s du un wt nw dr) w) := by
  have hN : 0 ≤ nw ∧ nw ≤ 4611686018425387904 := of_decide_eq_true hnw
  have B0 : Below w.heap.size w (((w.alloc (.cells #[.int .i64 p, .int .i64 j, .int .i64 t, .int .i64 h, .int .i64 g, .int .i64 q, .int .i64 s, .int .i64 cp, .slice A n k] 24)).alloc (.cells #[.int .i64 du, .int .i64 un, .bool wt] 28)).alloc (.cells #[.int .i64 0, .int .i64 0, .bool false] 28)) := balloc (balloc (balloc (Below.refl _ w) _) _) _
  have x0 := ((Blk.new w 24 #[.int .i64 p, .int .i64 j, .int .i64 t, .int .i64 h, .int .i64 g, .int .i64 q, .int .i64 s, .int .i64 cp, .slice A n k]).alloc (.cells #[.int .i64 du, .int .i64 un, .bool wt] 28)).alloc (.cells #[.int .i64 0, .int .i64 0, .bool false] 28)
  have x1 := (Blk.new (w.alloc (.cells #[.int .i64 p, .int .i64 j, .int .i64 t, .int .i64 h, .int .i64 g, .int .i64 q, .int .i64 s, .int .i64 cp, .slice A n k] 24)) 28 #[.int .i64 du, .int .i64 un, .bool wt]).alloc (.cells #[.int .i64 0, .int .i64 0, .bool false] 28)
  have x2 := Blk.new ((w.alloc (.cells #[.int .i64 p, .int .i64 j, .int .i64 t, .int .i64 h, .int .i64 g, .int .i64 q, .int .i64 s, .int .i64 cp, .slice A n k] 24)).alloc (.cells #[.int .i64 du, .int .i64 un, .bool wt] 28)) 28 #[.int .i64 0, .int .i64 0, .bool false]
  rw [World.size_alloc] at x1
  rw [World.size_alloc, World.size_alloc] at x2
  have X := Lib.hid (And.intro x1 (And.intro x2 B0))
  clear x0 x1 x2 B0 hnw
  have HW := Lib.hid (fun W => rquiet_any p j t h g q s cp dr A n k W hq hs)
  have h1 : 0 ≤ q + max 0 (min dr s) ∧ q + max 0 (min dr s) ≤ 2000000 := by omega
  clear hq hs
  by_cases hu : un ≤ nw
  · have hX := Lib.hid (show chgF q s du un wt nw dr = ((du, nw + (q + max 0 (min dr s)), false), 1) from if_pos hu)
    have hd : decide (nw < un) = false := decide_eq_false (by omega)
    generalize q + max 0 (min dr s) = y at *
    go_enter Tryd.func18, Tryd.ntmps18
    go_wp2_with fail
    refine (HW.out _).mono ?_
    rintro e w1 ⟨rfl, b1⟩
    have y1 := X.out.1.below b1 X.out.1.lt
    have y2 := X.out.2.1.below b1 X.out.2.1.lt
    have BB := bnext X.out.2.2 b1
    clear b1
    have c0 := (y1).cell 0
    have c1 := (y1).cell 1
    have c2 := (y1).cell 2
    simp only [List.getElem?_toArray, List.getElem?_cons_zero, List.getElem?_cons_succ] at c0 c1 c2
    have d0 := (y2).cell 0
    have d1 := (y2).cell 1
    have d2 := (y2).cell 2
    simp only [List.getElem?_toArray, List.getElem?_cons_zero, List.getElem?_cons_succ] at d0 d1 d2
    have f0 := y1.frozen 0
    have f1 := y1.frozen 1
    have f2 := y1.frozen 2
    have k0 := y2.frozen 0
    have k1 := y2.frozen 1
    have k2 := y2.frozen 2
    go_wp2_with fail
    have z : Blk (((((w1.setCell ⟨w.heap.size + 1, 1, none⟩ (.int .i64 (nw + y))).setCell ⟨w.heap.size + 1, 2, none⟩ (.bool false)).setCell ⟨w.heap.size + 1 + 1, 0, none⟩ (.int .i64 du)).setCell ⟨w.heap.size + 1 + 1, 1, none⟩ (.int .i64 (nw + y))).setCell ⟨w.heap.size + 1 + 1, 2, none⟩ (.bool false)) (w.heap.size + 1 + 1) 28 #[.int .i64 du, .int .i64 (nw + y), .bool false] := by
      have := (((((y2.far (p := ⟨w.heap.size + 1, 1, none⟩) (by show ¬ w.heap.size + 1 + 1 = w.heap.size + 1; omega) (.int .i64 (nw + y))).far (p := ⟨w.heap.size + 1, 2, none⟩) (by show ¬ w.heap.size + 1 + 1 = w.heap.size + 1; omega) (.bool false)).set 0 (.int .i64 du)).set 1 (.int .i64 (nw + y))).set 2 (.bool false))
      simp only [List.setIfInBounds_toArray, List.set_cons_zero, List.set_cons_succ] at this
      exact this
    have bz : Below w.heap.size w (((((w1.setCell ⟨w.heap.size + 1, 1, none⟩ (.int .i64 (nw + y))).setCell ⟨w.heap.size + 1, 2, none⟩ (.bool false)).setCell ⟨w.heap.size + 1 + 1, 0, none⟩ (.int .i64 du)).setCell ⟨w.heap.size + 1 + 1, 1, none⟩ (.int .i64 (nw + y))).setCell ⟨w.heap.size + 1 + 1, 2, none⟩ (.bool false)) := (((((BB.setCell (p := ⟨w.heap.size + 1, 1, none⟩) (by show w.heap.size ≤ w.heap.size + 1; omega) (.int .i64 (nw + y))).setCell (p := ⟨w.heap.size + 1, 2, none⟩) (by show w.heap.size ≤ w.heap.size + 1; omega) (.bool false)).setCell (p := ⟨w.heap.size + 1 + 1, 0, none⟩) (by show w.heap.size ≤ w.heap.size + 1 + 1; omega) (.int .i64 du)).setCell (p := ⟨w.heap.size + 1 + 1, 1, none⟩) (by show w.heap.size ≤ w.heap.size + 1 + 1; omega) (.int .i64 (nw + y))).setCell (p := ⟨w.heap.size + 1 + 1, 2, none⟩) (by show w.heap.size ≤ w.heap.size + 1 + 1; omega) (.bool false))
    clear d0 d1 d2 c0 c1 c2 y1 y2 BB f0 f1 f2 k0 k1 k2 X
    have d0 := (z).cell 0
    have d1 := (z).cell 1
    have d2 := (z).cell 2
    simp only [List.getElem?_toArray, List.getElem?_cons_zero, List.getElem?_cons_succ] at d0 d1 d2
    clear z
    generalize (((((w1.setCell ⟨w.heap.size + 1, 1, none⟩ (.int .i64 (nw + y))).setCell ⟨w.heap.size + 1, 2, none⟩ (.bool false)).setCell ⟨w.heap.size + 1 + 1, 0, none⟩ (.int .i64 du)).setCell ⟨w.heap.size + 1 + 1, 1, none⟩ (.int .i64 (nw + y))).setCell ⟨w.heap.size + 1 + 1, 2, none⟩ (.bool false)) = wz at *
    rw [hX.out]
    exact bodyPost_ret (v := .tuple #[.agg #[.int .i64 du, .int .i64 (nw + y), .bool false], .int .i64 1]) (by simp [results, Tryd.results18, go_sem, d0, d1, d2]) rfl ⟨rfl, bz⟩
  · have hX := Lib.hid (show chgF q s du un wt nw dr = ((du, un, true), 0) from if_neg hu)
    have hd : decide (nw < un) = true := decide_eq_true (by omega)
    clear h1 HW X
    go_enter Tryd.func18, Tryd.ntmps18
    go_wp2_with fail
    rw [hX.out]
    exact bodyPost_ret (v := .tuple #[.agg #[.int .i64 du, .int .i64 un, .bool true], .int .i64 0]) (by simp [results, Tryd.results18, go_sem]) rfl ⟨rfl, balloc (balloc (balloc (Below.refl _ _) _) _) _⟩

set_option maxHeartbeats 2000000 in
include hp hj hq hs hnw in
theorem rtick_any :
    Calls Tryd.prog 19 #[.agg #[.int .i64 p, .int .i64 j, .int .i64 t, .int .i64 h, .int .i64 g, .int .i64 q, .int .i64 s, .int .i64 cp, .slice A n k], .agg #[.int .i64 du, .int .i64 un, .bool wt], .int .i64 nw, .int .i64 dr] w (GivesR (tckF p j q s du un wt nw dr) w) := by
  have HCH := Lib.hid (fun W => rchange_any p j t h g q s cp A n k du un nw dr wt W hq hs hnw)
  have hN : 0 ≤ nw ∧ nw ≤ 4611686018425387904 := of_decide_eq_true hnw
  have B0 : Below w.heap.size w (((w.alloc (.cells #[.int .i64 p, .int .i64 j, .int .i64 t, .int .i64 h, .int .i64 g, .int .i64 q, .int .i64 s, .int .i64 cp, .slice A n k] 24)).alloc (.cells #[.int .i64 du, .int .i64 un, .bool wt] 28)).alloc (.cells #[.int .i64 0, .int .i64 0, .bool false] 28)) := balloc (balloc (balloc (Below.refl _ w) _) _) _
  have x0 := ((Blk.new w 24 #[.int .i64 p, .int .i64 j, .int .i64 t, .int .i64 h, .int .i64 g, .int .i64 q, .int .i64 s, .int .i64 cp, .slice A n k]).alloc (.cells #[.int .i64 du, .int .i64 un, .bool wt] 28)).alloc (.cells #[.int .i64 0, .int .i64 0, .bool false] 28)
  have x1 := (Blk.new (w.alloc (.cells #[.int .i64 p, .int .i64 j, .int .i64 t, .int .i64 h, .int .i64 g, .int .i64 q, .int .i64 s, .int .i64 cp, .slice A n k] 24)) 28 #[.int .i64 du, .int .i64 un, .bool wt]).alloc (.cells #[.int .i64 0, .int .i64 0, .bool false] 28)
  have x2 := Blk.new ((w.alloc (.cells #[.int .i64 p, .int .i64 j, .int .i64 t, .int .i64 h, .int .i64 g, .int .i64 q, .int .i64 s, .int .i64 cp, .slice A n k] 24)).alloc (.cells #[.int .i64 du, .int .i64 un, .bool wt] 28)) 28 #[.int .i64 0, .int .i64 0, .bool false]
  rw [World.size_alloc] at x1
  rw [World.size_alloc, World.size_alloc] at x2
  have X := Lib.hid (And.intro x1 (And.intro x2 B0))
  clear x0 x1 x2 B0 hnw
  have HW := Lib.hid (fun W => rwait_any p j t h g q s cp dr A n k W hp hj)
  have h1 : 0 ≤ p + max 0 (min dr j) ∧ p + max 0 (min dr j) ≤ 2000000 := by omega
  clear hq hs hp hj
  by_cases hu : du ≤ nw
  · have hX := Lib.hid (show tckF p j q s du un wt nw dr = ((nw + (p + max 0 (min dr j)), un, false), 2) from if_pos hu)
    clear HCH
    generalize p + max 0 (min dr j) = y at *
    go_enter Tryd.func19, Tryd.ntmps19
    go_wp2_with fail
    refine (HW.out _).mono ?_
    rintro e w1 ⟨rfl, b1⟩
    have y1 := X.out.1.below b1 X.out.1.lt
    have y2 := X.out.2.1.below b1 X.out.2.1.lt
    have BB := bnext X.out.2.2 b1
    clear b1
    have c0 := (y1).cell 0
    have c1 := (y1).cell 1
    have c2 := (y1).cell 2
    simp only [List.getElem?_toArray, List.getElem?_cons_zero, List.getElem?_cons_succ] at c0 c1 c2
    have d0 := (y2).cell 0
    have d1 := (y2).cell 1
    have d2 := (y2).cell 2
    simp only [List.getElem?_toArray, List.getElem?_cons_zero, List.getElem?_cons_succ] at d0 d1 d2
    have f0 := y1.frozen 0
    have f1 := y1.frozen 1
    have f2 := y1.frozen 2
    have k0 := y2.frozen 0
    have k1 := y2.frozen 1
    have k2 := y2.frozen 2
    go_wp2_with fail
    have z : Blk (((((w1.setCell ⟨w.heap.size + 1, 0, none⟩ (.int .i64 (nw + y))).setCell ⟨w.heap.size + 1, 2, none⟩ (.bool false)).setCell ⟨w.heap.size + 1 + 1, 0, none⟩ (.int .i64 (nw + y))).setCell ⟨w.heap.size + 1 + 1, 1, none⟩ (.int .i64 un)).setCell ⟨w.heap.size + 1 + 1, 2, none⟩ (.bool false)) (w.heap.size + 1 + 1) 28 #[.int .i64 (nw + y), .int .i64 un, .bool false] := by
      have := (((((y2.far (p := ⟨w.heap.size + 1, 0, none⟩) (by show ¬ w.heap.size + 1 + 1 = w.heap.size + 1; omega) (.int .i64 (nw + y))).far (p := ⟨w.heap.size + 1, 2, none⟩) (by show ¬ w.heap.size + 1 + 1 = w.heap.size + 1; omega) (.bool false)).set 0 (.int .i64 (nw + y))).set 1 (.int .i64 un)).set 2 (.bool false))
      simp only [List.setIfInBounds_toArray, List.set_cons_zero, List.set_cons_succ] at this
      exact this
    have bz : Below w.heap.size w (((((w1.setCell ⟨w.heap.size + 1, 0, none⟩ (.int .i64 (nw + y))).setCell ⟨w.heap.size + 1, 2, none⟩ (.bool false)).setCell ⟨w.heap.size + 1 + 1, 0, none⟩ (.int .i64 (nw + y))).setCell ⟨w.heap.size + 1 + 1, 1, none⟩ (.int .i64 un)).setCell ⟨w.heap.size + 1 + 1, 2, none⟩ (.bool false)) := (((((BB.setCell (p := ⟨w.heap.size + 1, 0, none⟩) (by show w.heap.size ≤ w.heap.size + 1; omega) (.int .i64 (nw + y))).setCell (p := ⟨w.heap.size + 1, 2, none⟩) (by show w.heap.size ≤ w.heap.size + 1; omega) (.bool false)).setCell (p := ⟨w.heap.size + 1 + 1, 0, none⟩) (by show w.heap.size ≤ w.heap.size + 1 + 1; omega) (.int .i64 (nw + y))).setCell (p := ⟨w.heap.size + 1 + 1, 1, none⟩) (by show w.heap.size ≤ w.heap.size + 1 + 1; omega) (.int .i64 un)).setCell (p := ⟨w.heap.size + 1 + 1, 2, none⟩) (by show w.heap.size ≤ w.heap.size + 1 + 1; omega) (.bool false))
    clear d0 d1 d2 c0 c1 c2 y1 y2 BB f0 f1 f2 k0 k1 k2 X
    have d0 := (z).cell 0
    have d1 := (z).cell 1
    have d2 := (z).cell 2
    simp only [List.getElem?_toArray, List.getElem?_cons_zero, List.getElem?_cons_succ] at d0 d1 d2
    clear z
    generalize (((((w1.setCell ⟨w.heap.size + 1, 0, none⟩ (.int .i64 (nw + y))).setCell ⟨w.heap.size + 1, 2, none⟩ (.bool false)).setCell ⟨w.heap.size + 1 + 1, 0, none⟩ (.int .i64 (nw + y))).setCell ⟨w.heap.size + 1 + 1, 1, none⟩ (.int .i64 un)).setCell ⟨w.heap.size + 1 + 1, 2, none⟩ (.bool false)) = wz at *
    rw [hX.out]
    exact bodyPost_ret (v := .tuple #[.agg #[.int .i64 (nw + y), .int .i64 un, .bool false], .int .i64 2]) (by simp [results, Tryd.results19, go_sem, d0, d1, d2]) rfl ⟨rfl, bz⟩
  · have hd : decide (du ≤ nw) = false := by simpa using hu
    clear h1 HW
    by_cases hb : wt = true ∧ un ≤ nw
    · obtain ⟨rfl, hun⟩ := hb
      have hX := Lib.hid (show tckF p j q s du un true nw dr = chgF q s du un true nw dr from by simp [tckF, hu])
      generalize chgF q s du un true nw dr = y at *
      go_enter Tryd.func19, Tryd.ntmps19
      go_wp2_with fail
      refine (HCH.out _).mono ?_
      rintro e w1 ⟨rfl, b1⟩
      have y2 := X.out.2.1.below b1 X.out.2.1.lt
      have BB := bnext X.out.2.2 b1
      clear b1 HCH
      have d0 := (y2).cell 0
      have d1 := (y2).cell 1
      have d2 := (y2).cell 2
      simp only [List.getElem?_toArray, List.getElem?_cons_zero, List.getElem?_cons_succ] at d0 d1 d2
      have k0 := y2.frozen 0
      have k1 := y2.frozen 1
      have k2 := y2.frozen 2
      go_wp2_with fail
      have z := ((y2.set 0 (.int .i64 y.1.1)).set 1 (.int .i64 y.1.2.1)).set 2 (.bool y.1.2.2)
      simp only [List.setIfInBounds_toArray, List.set_cons_zero, List.set_cons_succ] at z
      have bz := ((BB.setCell (p := ⟨w.heap.size + 1 + 1, 0, none⟩) (by show w.heap.size ≤ w.heap.size + 1 + 1; omega) (.int .i64 y.1.1)).setCell (p := ⟨w.heap.size + 1 + 1, 1, none⟩) (by show w.heap.size ≤ w.heap.size + 1 + 1; omega) (.int .i64 y.1.2.1)).setCell (p := ⟨w.heap.size + 1 + 1, 2, none⟩) (by show w.heap.size ≤ w.heap.size + 1 + 1; omega) (.bool y.1.2.2)
      clear d0 d1 d2
      clear y2 BB k0 k1 k2 X
      have d0 := (z).cell 0
      have d1 := (z).cell 1
      have d2 := (z).cell 2
      simp only [List.getElem?_toArray, List.getElem?_cons_zero, List.getElem?_cons_succ] at d0 d1 d2
      clear z
      generalize (((w1.setCell ⟨w.heap.size + 1 + 1, 0, none⟩ (.int .i64 y.1.1)).setCell ⟨w.heap.size + 1 + 1, 1, none⟩ (.int .i64 y.1.2.1)).setCell ⟨w.heap.size + 1 + 1, 2, none⟩ (.bool y.1.2.2)) = wz at *
      rw [hX.out]
      exact bodyPost_ret (v := .tuple #[.agg #[.int .i64 y.1.1, .int .i64 y.1.2.1, .bool y.1.2.2], .int .i64 y.2]) (by simp [results, Tryd.results19, go_sem, d0, d1, d2]) rfl ⟨rfl, bz⟩
    · have hX := Lib.hid (show tckF p j q s du un wt nw dr = ((du, un, wt), 0) from by
        unfold tckF chgF
        rw [if_neg hu]
        cases wt
        · rfl
        · rw [if_pos rfl, if_neg (fun hh => hb ⟨rfl, hh⟩)])
      clear HCH X
      cases wt
      · go_enter Tryd.func19, Tryd.ntmps19
        go_wp2_with fail
        rw [hX.out]
        exact bodyPost_ret (v := .tuple #[.agg #[.int .i64 du, .int .i64 un, .bool false], .int .i64 0]) (by simp [results, Tryd.results19, go_sem]) rfl ⟨rfl, balloc (balloc (balloc (Below.refl _ _) _) _) _⟩
      · have hd2 : decide (un ≤ nw) = false := by simpa using hb
        go_enter Tryd.func19, Tryd.ntmps19
        go_wp2_with fail
        rw [hX.out]
        exact bodyPost_ret (v := .tuple #[.agg #[.int .i64 du, .int .i64 un, .bool true], .int .i64 0]) (by simp [results, Tryd.results19, go_sem]) rfl ⟨rfl, balloc (balloc (balloc (Below.refl _ _) _) _) _⟩

end
end Go.Proofs.YtlgkjboamfgbeaaDoor
