/- config: Wait, Quiet, Bound. -/
import Derived.Test.YtcinggnhfgkahaaDoorCfg5
namespace Go.Proofs.YtcinggnhfgkahaaDoor
set_option linter.unusedVariables false
set_option linter.unusedSimpArgs false
open Go.RowKit
set_option maxRecDepth 100000

theorem okC_bounds {p j t h g q s cp : Int} {l : List (Nat × Int)} (ho : okC p j t h g q s cp l = true) : (1 ≤ p ∧ p ≤ 1000000) ∧ (0 ≤ j ∧ j ≤ 1000000) ∧ (1 ≤ t ∧ t ≤ 1000000) ∧ (0 ≤ h ∧ h ≤ 1000000) ∧ (1 ≤ g ∧ g ≤ 1000000) ∧ (0 ≤ q ∧ q ≤ 1000000) ∧ (0 ≤ s ∧ s ≤ 1000000) := by
  simp only [okC, okOwn, Bool.and_eq_true, decide_eq_true_eq, List.all_eq_true, List.mem_range] at ho
  have h1 := ho.1.1.1
  exact ⟨of_decide_eq_true (h1 0 (by omega)), of_decide_eq_true (h1 1 (by omega)), of_decide_eq_true (h1 2 (by omega)), of_decide_eq_true (h1 3 (by omega)), of_decide_eq_true (h1 4 (by omega)), of_decide_eq_true (h1 5 (by omega)), of_decide_eq_true (h1 6 (by omega))⟩
theorem far1 {w : World} {a b i : Nat} {v x : Value} (h : w.cell? ⟨a, i, none⟩ = some v) (hb : b ≠ a) : (w.setCell ⟨b, 0, none⟩ x).cell? ⟨a, i, none⟩ = some v :=
  (World.cell?_setCell_far w ⟨b, 0, none⟩ ⟨a, i, none⟩ x hb).trans h
theorem far2 {w : World} {a b c i : Nat} {v x y : Value} (h : w.cell? ⟨a, i, none⟩ = some v) (hb : b ≠ a) (hc : c ≠ a) : ((w.setCell ⟨b, 0, none⟩ x).setCell ⟨c, 0, none⟩ y).cell? ⟨a, i, none⟩ = some v :=
  (World.cell?_setCell_far _ ⟨c, 0, none⟩ ⟨a, i, none⟩ y hc).trans ((World.cell?_setCell_far w ⟨b, 0, none⟩ ⟨a, i, none⟩ x hb).trans h)
/-- a wait of a configuration -/
def waitC (ok : Bool) (a d b : Int) : Int := if ok then a + max 0 (min d b) else 0

set_option maxHeartbeats 2000000 in
theorem cwait_any (p j t h g q s cp d : Int) (A : Option Addr) (n k B : Nat) (l : List (Nat × Int)) (hn : l.length = n) (w : World) (hr : Rd w B A (plC l)) (hB : B ≤ w.heap.size) (hnk : n ≤ k) (hk : k ≤ 9223372036854775807) (hl : ∀ x ∈ l, x.1 < 4294967296) (hw : CapsAt w) :
    Calls Tryd.prog 18 #[.agg #[.int .i64 p, .int .i64 j, .int .i64 t, .int .i64 h, .int .i64 g, .int .i64 q, .int .i64 s, .int .i64 cp, .slice A n k], .int .i64 d] w fun e w' => e = .returned (.tuple #[.int .i64 (waitC (okC p j t h g q s cp l) p d j), .int .i64 (errC (okC p j t h g q s cp l))]) ∧ Below w.heap.size w w' := by
  have B0 : Below w.heap.size w (((w.alloc (.cells #[.int .i64 p, .int .i64 j, .int .i64 t, .int .i64 h, .int .i64 g, .int .i64 q, .int .i64 s, .int .i64 cp, .slice A n k] 24)).alloc (.cells #[.int .i64 0] 2)).alloc (.cells #[.int .i64 0] 32)) := balloc (balloc (balloc (Below.refl _ _) _) _) _
  have x0 := ((Blk.new w 24 #[.int .i64 p, .int .i64 j, .int .i64 t, .int .i64 h, .int .i64 g, .int .i64 q, .int .i64 s, .int .i64 cp, .slice A n k]).alloc (.cells #[.int .i64 0] 2)).alloc (.cells #[.int .i64 0] 32)
  have x1 := (Blk.new (w.alloc (.cells #[.int .i64 p, .int .i64 j, .int .i64 t, .int .i64 h, .int .i64 g, .int .i64 q, .int .i64 s, .int .i64 cp, .slice A n k] 24)) 2 #[.int .i64 0]).alloc (.cells #[.int .i64 0] 32)
  have x2 := Blk.new ((w.alloc (.cells #[.int .i64 p, .int .i64 j, .int .i64 t, .int .i64 h, .int .i64 g, .int .i64 q, .int .i64 s, .int .i64 cp, .slice A n k] 24)).alloc (.cells #[.int .i64 0] 2)) 32 #[.int .i64 0]
  rw [World.size_alloc] at x1
  rw [World.size_alloc, World.size_alloc] at x2
  have CM := Lib.hid (mustBe_any p j t h g q s cp A n k B l hn (((w.alloc (.cells #[.int .i64 p, .int .i64 j, .int .i64 t, .int .i64 h, .int .i64 g, .int .i64 q, .int .i64 s, .int .i64 cp, .slice A n k] 24)).alloc (.cells #[.int .i64 0] 2)).alloc (.cells #[.int .i64 0] 32)) (hr.below (B0.mono hB)) (by simp; omega) hnk hk hl (hw.below B0))
  have X := Lib.hid (And.intro x0 (And.intro x1 x2))
  have HB0 := Lib.hid B0
  have hmf : ∀ (fn : Fn) (first cap : Array Value) (w : World), (Instr.makeFunc fn first cap).run Tryd.prog w = .ok (.func fn first cap) w := fun _ _ _ _ => rfl
  clear hr hl hw x0 x1 x2 B0
  have hbd := okC_bounds (p := p) (j := j) (t := t) (h := h) (g := g) (q := q) (s := s) (cp := cp) (l := l)
  generalize okC p j t h g q s cp l = ok at *
  cases ok
  · rw [mustE_f] at CM
    clear hbd
    go_enter_defers Tryd.func18, Tryd.ntmps18
    go_wp2_with fail
    refine CM.out.mono ?_
    rintro e w1 ⟨rfl, hb⟩
    go_wp2_with fail
    refine leaves_cons (f := 37) (args := #[.pointer (some ⟨w.heap.size + 1 + 1, 0, none⟩), .pointer (some ⟨w.heap.size + 1, 0, none⟩)]) (by simp) (by simp [go_sem]) ?_
    have y1 := X.out.2.1.below hb X.out.2.1.lt
    have y2 := X.out.2.2.below hb X.out.2.2.lt
    with_reducible refine (wait_pan (w.heap.size + 1 + 1) (w.heap.size + 1) (.int .i64 0) (.int .i64 0) 2 [] _ y2 y1 (by omega)).mono ?_
    rintro e u' wz ⟨rfl, rfl, rfl⟩
    have z2 := ((y2.set 0 (.int .i64 2)).far (p := ⟨w.heap.size + 1, 0, none⟩) (by show ¬ w.heap.size + 1 + 1 = w.heap.size + 1; omega) (.int .i64 0)).cell 0
    have z1 := ((y1.far (p := ⟨w.heap.size + 1 + 1, 0, none⟩) (by show ¬ w.heap.size + 1 = w.heap.size + 1 + 1; omega) (.int .i64 2)).set 0 (.int .i64 0)).cell 0
    simp only [List.setIfInBounds_toArray, List.set_cons_zero, List.getElem?_toArray, List.getElem?_cons_zero] at z1 z2
    have bz := ((bnext HB0.out hb).setCell (p := ⟨w.heap.size + 1 + 1, 0, none⟩) (by show w.heap.size ≤ w.heap.size + 1 + 1; omega) (.int .i64 2)).setCell (p := ⟨w.heap.size + 1, 0, none⟩) (by show w.heap.size ≤ w.heap.size + 1; omega) (.int .i64 0)
    generalize ((w1.setCell ⟨w.heap.size + 1 + 1, 0, none⟩ (.int .i64 2)).setCell ⟨w.heap.size + 1, 0, none⟩ (.int .i64 0)) = wz at *
    simp [Leaves, settle, results, Tryd.results18, go_sem, z1, z2, errC, waitC]
    exact bz
  · rw [mustE_t] at CM
    replace hbd := hbd rfl
    have hwr : IntKind.i64.wrap (p + max 0 (min d j)) = p + max 0 (min d j) := IntWalk.i64_in _ ⟨by omega, by omega⟩
    go_enter_defers Tryd.func18, Tryd.ntmps18
    go_wp2_with fail
    refine CM.out.mono ?_
    rintro e w1 ⟨rfl, hb⟩
    have y0 := X.out.1.below hb X.out.1.lt
    have y1 := X.out.2.1.below hb X.out.2.1.lt
    have y2 := X.out.2.2.below hb X.out.2.2.lt
    have c0 := y0.cell 0
    have c1 := y0.cell 1
    have d1 := y1.cell 0
    have d2 := y2.cell 0
    have f1 := y1.frozen 0
    have f2 := y2.frozen 0
    simp only [List.getElem?_toArray, List.getElem?_cons_zero, List.getElem?_cons_succ] at c0 c1 d1 d2
    go_wp2_with fail
    go_region_held3 (fun w' => w'.cell? ⟨w.heap.size, 0, none⟩ = some (.int .i64 p) ∧ w'.cell? ⟨w.heap.size, 1, none⟩ = some (.int .i64 j)) (first | exact ⟨c0, c1⟩ | exact ⟨far1 (w := w1.drew) c0 (by omega), far1 (w := w1.drew) c1 (by omega)⟩ | exact ⟨far2 (w := w1.drew) c0 (by omega) (by omega), far2 (w := w1.drew) c1 (by omega) (by omega)⟩ | exact ⟨(far2 c0 (by omega) (by omega)), far2 c1 (by omega) (by omega)⟩ | exact ⟨(far1 c0 (by omega)), far1 c1 (by omega)⟩)
      (first | (go_at_call 38; refine (clamped_any _ _ _ _).mono ?_; rintro e w' ⟨rfl, rfl⟩))
    go_wp2_with fail
    refine leaves_cons (f := 37) (args := #[.pointer (some ⟨w.heap.size + 1 + 1, 0, none⟩), .pointer (some ⟨w.heap.size + 1, 0, none⟩)]) (by simp) (by simp [go_sem]) ?_
    with_reducible refine (wait_idle (w.heap.size + 1 + 1) (w.heap.size + 1) _).mono ?_
    rintro e u' wz ⟨rfl, rfl, rfl⟩
    have z1 := ((y1.set 0 (.int .i64 (p + max 0 (min d j)))).far (p := ⟨w.heap.size + 1 + 1, 0, none⟩) (by show ¬ w.heap.size + 1 = w.heap.size + 1 + 1; omega) (.int .i64 0)).cell 0
    have z2 := ((y2.far (p := ⟨w.heap.size + 1, 0, none⟩) (by show ¬ w.heap.size + 1 + 1 = w.heap.size + 1; omega) (.int .i64 (p + max 0 (min d j)))).set 0 (.int .i64 0)).cell 0
    simp only [List.setIfInBounds_toArray, List.set_cons_zero, List.getElem?_toArray, List.getElem?_cons_zero] at z1 z2
    have bz := ((bnext HB0.out hb).setCell (p := ⟨w.heap.size + 1, 0, none⟩) (by show w.heap.size ≤ w.heap.size + 1; omega) (.int .i64 (p + max 0 (min d j)))).setCell (p := ⟨w.heap.size + 1 + 1, 0, none⟩) (by show w.heap.size ≤ w.heap.size + 1 + 1; omega) (.int .i64 0)
    clear X HB0 CM
    generalize ((w1.setCell ⟨w.heap.size + 1, 0, none⟩ (.int .i64 (p + max 0 (min d j)))).setCell ⟨w.heap.size + 1 + 1, 0, none⟩ (.int .i64 0)) = wz at *
    simp [Leaves, settle, results, Tryd.results18, go_sem, z1, z2, errC, waitC]
    exact below_drewN bz 1

set_option maxHeartbeats 2000000 in
theorem cquiet_any (p j t h g q s cp d : Int) (A : Option Addr) (n k B : Nat) (l : List (Nat × Int)) (hn : l.length = n) (w : World) (hr : Rd w B A (plC l)) (hB : B ≤ w.heap.size) (hnk : n ≤ k) (hk : k ≤ 9223372036854775807) (hl : ∀ x ∈ l, x.1 < 4294967296) (hw : CapsAt w) :
    Calls Tryd.prog 19 #[.agg #[.int .i64 p, .int .i64 j, .int .i64 t, .int .i64 h, .int .i64 g, .int .i64 q, .int .i64 s, .int .i64 cp, .slice A n k], .int .i64 d] w fun e w' => e = .returned (.tuple #[.int .i64 (waitC (okC p j t h g q s cp l) q d s), .int .i64 (errC (okC p j t h g q s cp l))]) ∧ Below w.heap.size w w' := by
  have B0 : Below w.heap.size w (((w.alloc (.cells #[.int .i64 p, .int .i64 j, .int .i64 t, .int .i64 h, .int .i64 g, .int .i64 q, .int .i64 s, .int .i64 cp, .slice A n k] 24)).alloc (.cells #[.int .i64 0] 2)).alloc (.cells #[.int .i64 0] 32)) := balloc (balloc (balloc (Below.refl _ _) _) _) _
  have x0 := ((Blk.new w 24 #[.int .i64 p, .int .i64 j, .int .i64 t, .int .i64 h, .int .i64 g, .int .i64 q, .int .i64 s, .int .i64 cp, .slice A n k]).alloc (.cells #[.int .i64 0] 2)).alloc (.cells #[.int .i64 0] 32)
  have x1 := (Blk.new (w.alloc (.cells #[.int .i64 p, .int .i64 j, .int .i64 t, .int .i64 h, .int .i64 g, .int .i64 q, .int .i64 s, .int .i64 cp, .slice A n k] 24)) 2 #[.int .i64 0]).alloc (.cells #[.int .i64 0] 32)
  have x2 := Blk.new ((w.alloc (.cells #[.int .i64 p, .int .i64 j, .int .i64 t, .int .i64 h, .int .i64 g, .int .i64 q, .int .i64 s, .int .i64 cp, .slice A n k] 24)).alloc (.cells #[.int .i64 0] 2)) 32 #[.int .i64 0]
  rw [World.size_alloc] at x1
  rw [World.size_alloc, World.size_alloc] at x2
  have CM := Lib.hid (mustBe_any p j t h g q s cp A n k B l hn (((w.alloc (.cells #[.int .i64 p, .int .i64 j, .int .i64 t, .int .i64 h, .int .i64 g, .int .i64 q, .int .i64 s, .int .i64 cp, .slice A n k] 24)).alloc (.cells #[.int .i64 0] 2)).alloc (.cells #[.int .i64 0] 32)) (hr.below (B0.mono hB)) (by simp; omega) hnk hk hl (hw.below B0))
  have X := Lib.hid (And.intro x0 (And.intro x1 x2))
  have HB0 := Lib.hid B0
  have hmf : ∀ (fn : Fn) (first cap : Array Value) (w : World), (Instr.makeFunc fn first cap).run Tryd.prog w = .ok (.func fn first cap) w := fun _ _ _ _ => rfl
  clear hr hl hw x0 x1 x2 B0
  have hbd := okC_bounds (p := p) (j := j) (t := t) (h := h) (g := g) (q := q) (s := s) (cp := cp) (l := l)
  generalize okC p j t h g q s cp l = ok at *
  cases ok
  · rw [mustE_f] at CM
    clear hbd
    go_enter_defers Tryd.func19, Tryd.ntmps19
    go_wp2_with fail
    refine CM.out.mono ?_
    rintro e w1 ⟨rfl, hb⟩
    go_wp2_with fail
    refine leaves_cons (f := 39) (args := #[.pointer (some ⟨w.heap.size + 1 + 1, 0, none⟩), .pointer (some ⟨w.heap.size + 1, 0, none⟩)]) (by simp) (by simp [go_sem]) ?_
    have y1 := X.out.2.1.below hb X.out.2.1.lt
    have y2 := X.out.2.2.below hb X.out.2.2.lt
    with_reducible refine (quiet_pan (w.heap.size + 1 + 1) (w.heap.size + 1) (.int .i64 0) (.int .i64 0) 2 [] _ y2 y1 (by omega)).mono ?_
    rintro e u' wz ⟨rfl, rfl, rfl⟩
    have z2 := ((y2.set 0 (.int .i64 2)).far (p := ⟨w.heap.size + 1, 0, none⟩) (by show ¬ w.heap.size + 1 + 1 = w.heap.size + 1; omega) (.int .i64 0)).cell 0
    have z1 := ((y1.far (p := ⟨w.heap.size + 1 + 1, 0, none⟩) (by show ¬ w.heap.size + 1 = w.heap.size + 1 + 1; omega) (.int .i64 2)).set 0 (.int .i64 0)).cell 0
    simp only [List.setIfInBounds_toArray, List.set_cons_zero, List.getElem?_toArray, List.getElem?_cons_zero] at z1 z2
    have bz := ((bnext HB0.out hb).setCell (p := ⟨w.heap.size + 1 + 1, 0, none⟩) (by show w.heap.size ≤ w.heap.size + 1 + 1; omega) (.int .i64 2)).setCell (p := ⟨w.heap.size + 1, 0, none⟩) (by show w.heap.size ≤ w.heap.size + 1; omega) (.int .i64 0)
    generalize ((w1.setCell ⟨w.heap.size + 1 + 1, 0, none⟩ (.int .i64 2)).setCell ⟨w.heap.size + 1, 0, none⟩ (.int .i64 0)) = wz at *
    simp [Leaves, settle, results, Tryd.results19, go_sem, z1, z2, errC, waitC]
    exact bz
  · rw [mustE_t] at CM
    replace hbd := hbd rfl
    have hwr : IntKind.i64.wrap (q + max 0 (min d s)) = q + max 0 (min d s) := IntWalk.i64_in _ ⟨by omega, by omega⟩
    go_enter_defers Tryd.func19, Tryd.ntmps19
    go_wp2_with fail
    refine CM.out.mono ?_
    rintro e w1 ⟨rfl, hb⟩
    have y0 := X.out.1.below hb X.out.1.lt
    have y1 := X.out.2.1.below hb X.out.2.1.lt
    have y2 := X.out.2.2.below hb X.out.2.2.lt
    have c0 := y0.cell 5
    have c1 := y0.cell 6
    have d1 := y1.cell 0
    have d2 := y2.cell 0
    have f1 := y1.frozen 0
    have f2 := y2.frozen 0
    simp only [List.getElem?_toArray, List.getElem?_cons_zero, List.getElem?_cons_succ] at c0 c1 d1 d2
    go_wp2_with fail
    go_region_held3 (fun w' => w'.cell? ⟨w.heap.size, 5, none⟩ = some (.int .i64 q) ∧ w'.cell? ⟨w.heap.size, 6, none⟩ = some (.int .i64 s)) (first | exact ⟨c0, c1⟩ | exact ⟨far1 (w := w1.drew) c0 (by omega), far1 (w := w1.drew) c1 (by omega)⟩ | exact ⟨far2 (w := w1.drew) c0 (by omega) (by omega), far2 (w := w1.drew) c1 (by omega) (by omega)⟩ | exact ⟨(far2 c0 (by omega) (by omega)), far2 c1 (by omega) (by omega)⟩ | exact ⟨(far1 c0 (by omega)), far1 c1 (by omega)⟩)
      (first | (go_at_call 38; refine (clamped_any _ _ _ _).mono ?_; rintro e w' ⟨rfl, rfl⟩))
    go_wp2_with fail
    refine leaves_cons (f := 39) (args := #[.pointer (some ⟨w.heap.size + 1 + 1, 0, none⟩), .pointer (some ⟨w.heap.size + 1, 0, none⟩)]) (by simp) (by simp [go_sem]) ?_
    with_reducible refine (quiet_idle (w.heap.size + 1 + 1) (w.heap.size + 1) _).mono ?_
    rintro e u' wz ⟨rfl, rfl, rfl⟩
    have z1 := ((y1.set 0 (.int .i64 (q + max 0 (min d s)))).far (p := ⟨w.heap.size + 1 + 1, 0, none⟩) (by show ¬ w.heap.size + 1 = w.heap.size + 1 + 1; omega) (.int .i64 0)).cell 0
    have z2 := ((y2.far (p := ⟨w.heap.size + 1, 0, none⟩) (by show ¬ w.heap.size + 1 + 1 = w.heap.size + 1; omega) (.int .i64 (q + max 0 (min d s)))).set 0 (.int .i64 0)).cell 0
    simp only [List.setIfInBounds_toArray, List.set_cons_zero, List.getElem?_toArray, List.getElem?_cons_zero] at z1 z2
    have bz := ((bnext HB0.out hb).setCell (p := ⟨w.heap.size + 1, 0, none⟩) (by show w.heap.size ≤ w.heap.size + 1; omega) (.int .i64 (q + max 0 (min d s)))).setCell (p := ⟨w.heap.size + 1 + 1, 0, none⟩) (by show w.heap.size ≤ w.heap.size + 1 + 1; omega) (.int .i64 0)
    clear X HB0 CM
    generalize ((w1.setCell ⟨w.heap.size + 1, 0, none⟩ (.int .i64 (q + max 0 (min d s)))).setCell ⟨w.heap.size + 1 + 1, 0, none⟩ (.int .i64 0)) = wz at *
    simp [Leaves, settle, results, Tryd.results19, go_sem, z1, z2, errC, waitC]
    exact below_drewN bz 1
end Go.Proofs.YtcinggnhfgkahaaDoor
