/- config: Bound. -/
import Derived.Test.YtcinggnhfgkahaaDoorCfg6
namespace Go.Proofs.YtcinggnhfgkahaaDoor
set_option linter.unusedVariables false
set_option linter.unusedSimpArgs false
open Go.RowKit
set_option maxRecDepth 100000

/-- the bound of a configuration, and the error -/
def bndC (ok : Bool) (p j t h g d : Int) : Int × Int := if ok = false ∨ d < 0 ∨ 1000000 < d then (0, 2) else if t ≤ p + j + d then (0, 180) else (32 * (t + h + g + p + j + d), 0)

set_option maxHeartbeats 2000000 in
theorem cbound_any (p j t h g q s cp d : Int) (A : Option Addr) (n k B : Nat) (l : List (Nat × Int)) (hn : l.length = n) (w : World) (hr : Rd w B A (plC l)) (hB : B ≤ w.heap.size) (hnk : n ≤ k) (hk : k ≤ 9223372036854775807) (hl : ∀ x ∈ l, x.1 < 4294967296) (hw : CapsAt w) :
    Calls Tryd.prog 22 #[.agg #[.int .i64 p, .int .i64 j, .int .i64 t, .int .i64 h, .int .i64 g, .int .i64 q, .int .i64 s, .int .i64 cp, .slice A n k], .int .i64 d] w fun e w' => e = .returned (.tuple #[.int .i64 (bndC (okC p j t h g q s cp l) p j t h g d).1, .int .i64 (bndC (okC p j t h g q s cp l) p j t h g d).2]) ∧ Below w.heap.size w w' := by
  have B0 : Below w.heap.size w (((w.alloc (.cells #[.int .i64 p, .int .i64 j, .int .i64 t, .int .i64 h, .int .i64 g, .int .i64 q, .int .i64 s, .int .i64 cp, .slice A n k] 24)).alloc (.cells #[.int .i64 0] 2)).alloc (.cells #[.int .i64 0] 32)) := balloc (balloc (balloc (Below.refl _ _) _) _) _
  have x0 := ((Blk.new w 24 #[.int .i64 p, .int .i64 j, .int .i64 t, .int .i64 h, .int .i64 g, .int .i64 q, .int .i64 s, .int .i64 cp, .slice A n k]).alloc (.cells #[.int .i64 0] 2)).alloc (.cells #[.int .i64 0] 32)
  have x1 := (Blk.new (w.alloc (.cells #[.int .i64 p, .int .i64 j, .int .i64 t, .int .i64 h, .int .i64 g, .int .i64 q, .int .i64 s, .int .i64 cp, .slice A n k] 24)) 2 #[.int .i64 0]).alloc (.cells #[.int .i64 0] 32)
  have x2 := Blk.new ((w.alloc (.cells #[.int .i64 p, .int .i64 j, .int .i64 t, .int .i64 h, .int .i64 g, .int .i64 q, .int .i64 s, .int .i64 cp, .slice A n k] 24)).alloc (.cells #[.int .i64 0] 2)) 32 #[.int .i64 0]
  rw [World.size_alloc] at x1
  rw [World.size_alloc, World.size_alloc] at x2
  have CM := Lib.hid (mustBe_any p j t h g q s cp A n k B l hn (((w.alloc (.cells #[.int .i64 p, .int .i64 j, .int .i64 t, .int .i64 h, .int .i64 g, .int .i64 q, .int .i64 s, .int .i64 cp, .slice A n k] 24)).alloc (.cells #[.int .i64 0] 2)).alloc (.cells #[.int .i64 0] 32)) (hr.below (B0.mono hB)) (by simp; omega) hnk hk hl (hw.below B0))
  have X := Lib.hid (And.intro x0 (And.intro x1 x2))
  have HB0 := Lib.hid B0
  have hmf : ∀ (fn : Fn) (first cap : Array Value) (w : World), (Instr.makeFunc fn first cap).run Tryd.prog w = .ok (.func fn first cap) w := fun _ _ _ _ => rfl
  clear hr hl hw x0 x1 x2 B0
  have hbd := okC_bounds (p := p) (j := j) (t := t) (h := h) (g := g) (q := q) (s := s) (cp := cp) (l := l)
  have hV : bndC (okC p j t h g q s cp l) p j t h g d = if okC p j t h g q s cp l = false ∨ d < 0 ∨ 1000000 < d then (0, 2) else if t ≤ p + j + d then (0, 180) else (32 * (t + h + g + p + j + d), 0) := rfl
  generalize bndC (okC p j t h g q s cp l) p j t h g d = bv at *
  generalize okC p j t h g q s cp l = ok at *
  cases ok
  · rw [mustE_f] at CM
    rw [if_pos (.inl rfl)] at hV
    have HV := Lib.hid hV
    clear hbd hV
    go_enter_defers Tryd.func22, Tryd.ntmps22
    go_wp2_with fail
    refine CM.out.mono ?_
    rintro e w1 ⟨rfl, hb⟩
    go_wp2_with fail
    refine leaves_cons (f := 41) (args := #[.pointer (some ⟨w.heap.size + 1 + 1, 0, none⟩), .pointer (some ⟨w.heap.size + 1, 0, none⟩)]) (by simp) (by simp [go_sem]) ?_
    have y1 := X.out.2.1.below hb X.out.2.1.lt
    have y2 := X.out.2.2.below hb X.out.2.2.lt
    with_reducible refine (bound_pan (w.heap.size + 1 + 1) (w.heap.size + 1) (.int .i64 0) (.int .i64 0) 2 [] _ y2 y1 (by omega)).mono ?_
    rintro e u' wz ⟨rfl, rfl, rfl⟩
    have z2 := ((y2.set 0 (.int .i64 2)).far (p := ⟨w.heap.size + 1, 0, none⟩) (by show ¬ w.heap.size + 1 + 1 = w.heap.size + 1; omega) (.int .i64 0)).cell 0
    have z1 := ((y1.far (p := ⟨w.heap.size + 1 + 1, 0, none⟩) (by show ¬ w.heap.size + 1 = w.heap.size + 1 + 1; omega) (.int .i64 2)).set 0 (.int .i64 0)).cell 0
    simp only [List.setIfInBounds_toArray, List.set_cons_zero, List.getElem?_toArray, List.getElem?_cons_zero] at z1 z2
    have bz := ((bnext HB0.out hb).setCell (p := ⟨w.heap.size + 1 + 1, 0, none⟩) (by show w.heap.size ≤ w.heap.size + 1 + 1; omega) (.int .i64 2)).setCell (p := ⟨w.heap.size + 1, 0, none⟩) (by show w.heap.size ≤ w.heap.size + 1; omega) (.int .i64 0)
    generalize ((w1.setCell ⟨w.heap.size + 1 + 1, 0, none⟩ (.int .i64 2)).setCell ⟨w.heap.size + 1, 0, none⟩ (.int .i64 0)) = wz at *
    rw [HV.out]
    simp [Leaves, settle, results, Tryd.results22, go_sem, z1, z2]
    exact bz
  · rw [mustE_t] at CM
    replace hbd := hbd rfl
    obtain ⟨⟨p0, p1⟩, ⟨j0, j1⟩, ⟨t0, t1⟩, ⟨h0, h1⟩, ⟨g0, g1⟩, _, _⟩ := hbd
    by_cases hd0 : d < 0
    · rw [if_pos (.inr (.inl hd0))] at hV
      have HV := Lib.hid hV
      clear hV
      go_enter_defers Tryd.func22, Tryd.ntmps22
      go_wp2_with fail
      refine CM.out.mono ?_
      rintro e w1 ⟨rfl, hb⟩
      go_wp2_with fail
      refine leaves_cons (f := 41) (args := #[.pointer (some ⟨w.heap.size + 1 + 1, 0, none⟩), .pointer (some ⟨w.heap.size + 1, 0, none⟩)]) (by simp) (by simp [go_sem]) ?_
      have y1 := X.out.2.1.below hb X.out.2.1.lt
      have y2 := X.out.2.2.below hb X.out.2.2.lt
      with_reducible refine (bound_pan (w.heap.size + 1 + 1) (w.heap.size + 1) (.int .i64 0) (.int .i64 0) 2 [] _ y2 y1 (by omega)).mono ?_
      rintro e u' wz ⟨rfl, rfl, rfl⟩
      have z2 := ((y2.set 0 (.int .i64 2)).far (p := ⟨w.heap.size + 1, 0, none⟩) (by show ¬ w.heap.size + 1 + 1 = w.heap.size + 1; omega) (.int .i64 0)).cell 0
      have z1 := ((y1.far (p := ⟨w.heap.size + 1 + 1, 0, none⟩) (by show ¬ w.heap.size + 1 = w.heap.size + 1 + 1; omega) (.int .i64 2)).set 0 (.int .i64 0)).cell 0
      simp only [List.setIfInBounds_toArray, List.set_cons_zero, List.getElem?_toArray, List.getElem?_cons_zero] at z1 z2
      have bz := ((bnext HB0.out hb).setCell (p := ⟨w.heap.size + 1 + 1, 0, none⟩) (by show w.heap.size ≤ w.heap.size + 1 + 1; omega) (.int .i64 2)).setCell (p := ⟨w.heap.size + 1, 0, none⟩) (by show w.heap.size ≤ w.heap.size + 1; omega) (.int .i64 0)
      generalize ((w1.setCell ⟨w.heap.size + 1 + 1, 0, none⟩ (.int .i64 2)).setCell ⟨w.heap.size + 1, 0, none⟩ (.int .i64 0)) = wz at *
      rw [HV.out]
      simp [Leaves, settle, results, Tryd.results22, go_sem, z1, z2]
      exact bz
    by_cases hd1 : 1000000 < d
    · rw [if_pos (.inr (.inr hd1))] at hV
      have HV := Lib.hid hV
      clear hV
      go_enter_defers Tryd.func22, Tryd.ntmps22
      go_wp2_with fail
      refine CM.out.mono ?_
      rintro e w1 ⟨rfl, hb⟩
      go_wp2_with fail
      refine leaves_cons (f := 41) (args := #[.pointer (some ⟨w.heap.size + 1 + 1, 0, none⟩), .pointer (some ⟨w.heap.size + 1, 0, none⟩)]) (by simp) (by simp [go_sem]) ?_
      have y1 := X.out.2.1.below hb X.out.2.1.lt
      have y2 := X.out.2.2.below hb X.out.2.2.lt
      with_reducible refine (bound_pan (w.heap.size + 1 + 1) (w.heap.size + 1) (.int .i64 0) (.int .i64 0) 2 [] _ y2 y1 (by omega)).mono ?_
      rintro e u' wz ⟨rfl, rfl, rfl⟩
      have z2 := ((y2.set 0 (.int .i64 2)).far (p := ⟨w.heap.size + 1, 0, none⟩) (by show ¬ w.heap.size + 1 + 1 = w.heap.size + 1; omega) (.int .i64 0)).cell 0
      have z1 := ((y1.far (p := ⟨w.heap.size + 1 + 1, 0, none⟩) (by show ¬ w.heap.size + 1 = w.heap.size + 1 + 1; omega) (.int .i64 2)).set 0 (.int .i64 0)).cell 0
      simp only [List.setIfInBounds_toArray, List.set_cons_zero, List.getElem?_toArray, List.getElem?_cons_zero] at z1 z2
      have bz := ((bnext HB0.out hb).setCell (p := ⟨w.heap.size + 1 + 1, 0, none⟩) (by show w.heap.size ≤ w.heap.size + 1 + 1; omega) (.int .i64 2)).setCell (p := ⟨w.heap.size + 1, 0, none⟩) (by show w.heap.size ≤ w.heap.size + 1; omega) (.int .i64 0)
      generalize ((w1.setCell ⟨w.heap.size + 1 + 1, 0, none⟩ (.int .i64 2)).setCell ⟨w.heap.size + 1, 0, none⟩ (.int .i64 0)) = wz at *
      rw [HV.out]
      simp [Leaves, settle, results, Tryd.results22, go_sem, z1, z2]
      exact bz
    rw [if_neg (by simp; omega)] at hV
    by_cases hst : t ≤ p + j + d
    · rw [if_pos hst] at hV
      have HV := Lib.hid hV
      clear hV
      go_enter_defers Tryd.func22, Tryd.ntmps22
      go_wp2_with fail
      refine CM.out.mono ?_
      rintro e w1 ⟨rfl, hb⟩
      have y0 := X.out.1.below hb X.out.1.lt
      have c0 := (y0).cell 0
      have c1 := (y0).cell 1
      have c2 := (y0).cell 2
      have c3 := (y0).cell 3
      have c4 := (y0).cell 4
      simp only [List.getElem?_toArray, List.getElem?_cons_zero, List.getElem?_cons_succ] at c0 c1 c2 c3 c4
      go_wp2_with fail
      refine leaves_cons (f := 41) (args := #[.pointer (some ⟨w.heap.size + 1 + 1, 0, none⟩), .pointer (some ⟨w.heap.size + 1, 0, none⟩)]) (by simp) (by simp [go_sem]) ?_
      have y1 := X.out.2.1.below hb X.out.2.1.lt
      have y2 := X.out.2.2.below hb X.out.2.2.lt
      with_reducible refine (bound_pan (w.heap.size + 1 + 1) (w.heap.size + 1) (.int .i64 0) (.int .i64 0) 180 [] _ y2 y1 (by omega)).mono ?_
      rintro e u' wz ⟨rfl, rfl, rfl⟩
      have z2 := ((y2.set 0 (.int .i64 180)).far (p := ⟨w.heap.size + 1, 0, none⟩) (by show ¬ w.heap.size + 1 + 1 = w.heap.size + 1; omega) (.int .i64 0)).cell 0
      have z1 := ((y1.far (p := ⟨w.heap.size + 1 + 1, 0, none⟩) (by show ¬ w.heap.size + 1 = w.heap.size + 1 + 1; omega) (.int .i64 180)).set 0 (.int .i64 0)).cell 0
      simp only [List.setIfInBounds_toArray, List.set_cons_zero, List.getElem?_toArray, List.getElem?_cons_zero] at z1 z2
      have bz := ((bnext HB0.out hb).setCell (p := ⟨w.heap.size + 1 + 1, 0, none⟩) (by show w.heap.size ≤ w.heap.size + 1 + 1; omega) (.int .i64 180)).setCell (p := ⟨w.heap.size + 1, 0, none⟩) (by show w.heap.size ≤ w.heap.size + 1; omega) (.int .i64 0)
      generalize ((w1.setCell ⟨w.heap.size + 1 + 1, 0, none⟩ (.int .i64 180)).setCell ⟨w.heap.size + 1, 0, none⟩ (.int .i64 0)) = wz at *
      rw [HV.out]
      simp [Leaves, settle, results, Tryd.results22, go_sem, z1, z2]
      exact bz
    rw [if_neg hst] at hV
    have HV := Lib.hid hV
    clear hV
    go_enter_defers Tryd.func22, Tryd.ntmps22
    go_wp2_with fail
    refine CM.out.mono ?_
    rintro e w1 ⟨rfl, hb⟩
    have y0 := X.out.1.below hb X.out.1.lt
    have c0 := (y0).cell 0
    have c1 := (y0).cell 1
    have c2 := (y0).cell 2
    have c3 := (y0).cell 3
    have c4 := (y0).cell 4
    simp only [List.getElem?_toArray, List.getElem?_cons_zero, List.getElem?_cons_succ] at c0 c1 c2 c3 c4
    have y1 := X.out.2.1.below hb X.out.2.1.lt
    have y2 := X.out.2.2.below hb X.out.2.2.lt
    have d1 := y1.cell 0
    have d2 := y2.cell 0
    have f1 := y1.frozen 0
    have f2 := y2.frozen 0
    simp only [List.getElem?_toArray, List.getElem?_cons_zero, List.getElem?_cons_succ] at d1 d2
    go_wp2_with fail
    refine leaves_cons (f := 41) (args := #[.pointer (some ⟨w.heap.size + 1 + 1, 0, none⟩), .pointer (some ⟨w.heap.size + 1, 0, none⟩)]) (by simp) (by simp [go_sem]) ?_
    with_reducible refine (bound_idle (w.heap.size + 1 + 1) (w.heap.size + 1) _).mono ?_
    rintro e u' wz ⟨rfl, rfl, rfl⟩
    have z1 := ((y1.set 0 (.int .i64 (32 * (t + h + g + p + j + d)))).far (p := ⟨w.heap.size + 1 + 1, 0, none⟩) (by show ¬ w.heap.size + 1 = w.heap.size + 1 + 1; omega) (.int .i64 0)).cell 0
    have z2 := ((y2.far (p := ⟨w.heap.size + 1, 0, none⟩) (by show ¬ w.heap.size + 1 + 1 = w.heap.size + 1; omega) (.int .i64 (32 * (t + h + g + p + j + d)))).set 0 (.int .i64 0)).cell 0
    simp only [List.setIfInBounds_toArray, List.set_cons_zero, List.getElem?_toArray, List.getElem?_cons_zero] at z1 z2
    have bz := ((bnext HB0.out hb).setCell (p := ⟨w.heap.size + 1, 0, none⟩) (by show w.heap.size ≤ w.heap.size + 1; omega) (.int .i64 (32 * (t + h + g + p + j + d)))).setCell (p := ⟨w.heap.size + 1 + 1, 0, none⟩) (by show w.heap.size ≤ w.heap.size + 1 + 1; omega) (.int .i64 0)
    clear X HB0 CM
    generalize ((w1.setCell ⟨w.heap.size + 1, 0, none⟩ (.int .i64 (32 * (t + h + g + p + j + d)))).setCell ⟨w.heap.size + 1 + 1, 0, none⟩ (.int .i64 0)) = wz at *
    rw [HV.out]
    simp [Leaves, settle, results, Tryd.results22, go_sem, z1, z2]
    exact bz
end Go.Proofs.YtcinggnhfgkahaaDoor
