/- pulse: ask, Begin. -/
import Derived.Test.YtlgkjboamfgbeaaDoorPul5
namespace Go.Proofs.YtlgkjboamfgbeaaDoor
set_option linter.unusedVariables false
set_option linter.unusedSimpArgs false
open Go.RowKit
set_option maxRecDepth 100000

/-- what ask hands back -/
def askR (er : Int) (x : (Int × Int × Bool) × Int) : Value :=
  if er = 0 then .tuple #[.agg #[.int .i64 x.1.1, .int .i64 x.1.2.1, .bool x.1.2.2], .int .i64 x.2, .int .i64 0] else .tuple #[.agg #[.int .i64 0, .int .i64 0, .bool false], .int .i64 0, .int .i64 er]
/-- what Begin hands back -/
def begR (er du un : Int) : Value :=
  if er = 0 then .tuple #[.agg #[.int .i64 du, .int .i64 un, .bool false], .int .i64 0] else .tuple #[.agg #[.int .i64 0, .int .i64 0, .bool false], .int .i64 er]
theorem askE_cases (oc op on : Bool) : askE oc op on = 2 ∨ askE oc op on = 170 ∨ (askE oc op on = 0 ∧ oc = true ∧ op = true ∧ on = true) := by
  cases oc <;> cases op <;> cases on <;> simp [askE]
theorem only_cell {w w' : World} {b : Nat} {a : Nat} {t : TypeId} {cs : Array Value} (h : w.grownBy w' (some b)) (hb : Blk w a t cs) (hne : a ≠ b) : Blk w' a t cs :=
  (h.block a hb.lt (fun e => hne (Option.some.inj e))).trans hb
theorem only_below {w0 w w' : World} {b : Nat} (h0 : Below w0.heap.size w0 w) (h : w.grownBy w' (some b)) (hb : w0.heap.size ≤ b) : Below w0.heap.size w0 w' := bgrown h0 h hb

set_option maxHeartbeats 2000000 in
theorem ask_any (fn : FuncId) (x : (Int × Int × Bool) × Int) (p j t h g q s cp : Int) (A : Option Addr) (n k B : Nat) (l : List (Nat × Int)) (hn : l.length = n) (du un nw dr : Int) (wt : Bool) (w : World) (hr : Rd w B A (plC l)) (hB : B ≤ w.heap.size) (hnk : n ≤ k) (hk : k ≤ 9223372036854775807) (hl : ∀ x ∈ l, x.1 < 4294967296) (hw : CapsAt w)
    (hent : ∀ (args : Array Value) (w : World), (callFunc fn args).run Tryd.prog w = .ok (.enter fn args) w)
    (hf : ∀ W, okC p j t h g q s cp l = true → okN nw = true → Blk W w.heap.size 58 #[.int .i64 du, .int .i64 un, .bool wt, .int .i64 p, .int .i64 j, .int .i64 t, .int .i64 h, .int .i64 g, .int .i64 q, .int .i64 s, .int .i64 cp, .slice A n k, .int .i64 nw, .int .i64 dr] → Rd W B A (plC l) → B ≤ W.heap.size → CapsAt W → Calls Tryd.prog fn #[.pointer (some ⟨w.heap.size, 0, none⟩)] W (Told w.heap.size p j t h g q s cp A n k nw dr W x)) :
    Calls Tryd.prog 29 #[.agg #[.int .i64 du, .int .i64 un, .bool wt, .int .i64 p, .int .i64 j, .int .i64 t, .int .i64 h, .int .i64 g, .int .i64 q, .int .i64 s, .int .i64 cp, .slice A n k, .int .i64 nw, .int .i64 dr], .func (.func fn) #[] #[]] w fun e w' => e = .returned (askR (askE (okC p j t h g q s cp l) (okT du && okT un) (okN nw)) x) ∧ Below w.heap.size w w' := by
  have x0 := ((((Blk.new w 58 #[.int .i64 du, .int .i64 un, .bool wt, .int .i64 p, .int .i64 j, .int .i64 t, .int .i64 h, .int .i64 g, .int .i64 q, .int .i64 s, .int .i64 cp, .slice A n k, .int .i64 nw, .int .i64 dr]).alloc (.cells #[.int .i64 0, .int .i64 0, .bool false] 28)).alloc (.cells #[.int .i64 0] 36)).alloc (.cells #[.int .i64 0] 29))
  have x1 := (((Blk.new (w.alloc (.cells #[.int .i64 du, .int .i64 un, .bool wt, .int .i64 p, .int .i64 j, .int .i64 t, .int .i64 h, .int .i64 g, .int .i64 q, .int .i64 s, .int .i64 cp, .slice A n k, .int .i64 nw, .int .i64 dr] 58)) 28 #[.int .i64 0, .int .i64 0, .bool false]).alloc (.cells #[.int .i64 0] 36)).alloc (.cells #[.int .i64 0] 29))
  rw [World.size_alloc] at x1
  have x2 := ((Blk.new ((w.alloc (.cells #[.int .i64 du, .int .i64 un, .bool wt, .int .i64 p, .int .i64 j, .int .i64 t, .int .i64 h, .int .i64 g, .int .i64 q, .int .i64 s, .int .i64 cp, .slice A n k, .int .i64 nw, .int .i64 dr] 58)).alloc (.cells #[.int .i64 0, .int .i64 0, .bool false] 28)) 36 #[.int .i64 0]).alloc (.cells #[.int .i64 0] 29))
  rw [World.size_alloc, World.size_alloc] at x2
  have x3 := (Blk.new (((w.alloc (.cells #[.int .i64 du, .int .i64 un, .bool wt, .int .i64 p, .int .i64 j, .int .i64 t, .int .i64 h, .int .i64 g, .int .i64 q, .int .i64 s, .int .i64 cp, .slice A n k, .int .i64 nw, .int .i64 dr] 58)).alloc (.cells #[.int .i64 0, .int .i64 0, .bool false] 28)).alloc (.cells #[.int .i64 0] 36)) 29 #[.int .i64 0])
  rw [World.size_alloc, World.size_alloc, World.size_alloc] at x3
  have B0 : Below w.heap.size w ((((w.alloc (.cells #[.int .i64 du, .int .i64 un, .bool wt, .int .i64 p, .int .i64 j, .int .i64 t, .int .i64 h, .int .i64 g, .int .i64 q, .int .i64 s, .int .i64 cp, .slice A n k, .int .i64 nw, .int .i64 dr] 58)).alloc (.cells #[.int .i64 0, .int .i64 0, .bool false] 28)).alloc (.cells #[.int .i64 0] 36)).alloc (.cells #[.int .i64 0] 29)) := balloc (balloc (balloc (balloc (Below.refl _ w) (.cells #[.int .i64 du, .int .i64 un, .bool wt, .int .i64 p, .int .i64 j, .int .i64 t, .int .i64 h, .int .i64 g, .int .i64 q, .int .i64 s, .int .i64 cp, .slice A n k, .int .i64 nw, .int .i64 dr] 58)) (.cells #[.int .i64 0, .int .i64 0, .bool false] 28)) (.cells #[.int .i64 0] 36)) (.cells #[.int .i64 0] 29)
  have HK := Lib.hid (pcheck_any w.heap.size p j t h g q s cp A n k B l hn du un nw dr wt ((((w.alloc (.cells #[.int .i64 du, .int .i64 un, .bool wt, .int .i64 p, .int .i64 j, .int .i64 t, .int .i64 h, .int .i64 g, .int .i64 q, .int .i64 s, .int .i64 cp, .slice A n k, .int .i64 nw, .int .i64 dr] 58)).alloc (.cells #[.int .i64 0, .int .i64 0, .bool false] 28)).alloc (.cells #[.int .i64 0] 36)).alloc (.cells #[.int .i64 0] 29)) x0 (hr.below (B0.mono hB)) (by simp; omega) hnk hk hl (hw.below B0))
  have HF := Lib.hid (fun W (hc : okC p j t h g q s cp l = true) (hN : okN nw = true) (hW : Below w.heap.size w W) (h0 : Blk W w.heap.size 58 #[.int .i64 du, .int .i64 un, .bool wt, .int .i64 p, .int .i64 j, .int .i64 t, .int .i64 h, .int .i64 g, .int .i64 q, .int .i64 s, .int .i64 cp, .slice A n k, .int .i64 nw, .int .i64 dr]) => hf W hc hN h0 (hr.below (hW.mono hB)) (by have := hW.size; omega) (hw.below hW))
  have X := Lib.hid (And.intro x0 (And.intro x1 (And.intro x2 x3)))
  have HB0 := Lib.hid B0
  have hmf : ∀ (fn : Fn) (first cap : Array Value) (w : World), (Instr.makeFunc fn first cap).run Tryd.prog w = .ok (.func fn first cap) w := fun _ _ _ _ => rfl
  clear hr hl hw hf x0 x1 x2 x3 B0
  have hE := askE_cases (okC p j t h g q s cp l) (okT du && okT un) (okN nw)
  generalize askE (okC p j t h g q s cp l) (okT du && okT un) (okN nw) = er at *
  rcases hE with rfl | rfl | ⟨rfl, hoc, hop, hon⟩
  · rw [fltE_2] at HK
    clear HF
    go_enter_defers Tryd.func29, Tryd.ntmps29
    go_wp2_with fail
    refine HK.out.mono ?_
    rintro e w1 ⟨rfl, b1⟩
    go_wp2_with fail
    refine leaves_cons (f := 52) (args := #[.pointer (some ⟨w.heap.size + 1, 0, none⟩), .pointer (some ⟨w.heap.size + 1 + 1, 0, none⟩), .pointer (some ⟨w.heap.size + 1 + 1 + 1, 0, none⟩)]) (by simp) (by simp [go_sem]) ?_
    have y1 := X.out.2.1.below b1 X.out.2.1.lt
    have y2 := X.out.2.2.1.below b1 X.out.2.2.1.lt
    have y3 := X.out.2.2.2.below b1 X.out.2.2.2.lt
    with_reducible refine (ask_pan (w.heap.size + 1) (w.heap.size + 1 + 1) (w.heap.size + 1 + 1 + 1) (.int .i64 0) (.int .i64 0) (.bool false) (.int .i64 0) (.int .i64 0) 2 [] _ y1 y2 y3 (by omega) (by omega) (by omega) (by omega) (by omega) (by omega)).mono ?_
    rintro e u' wz ⟨rfl, rfl, z1, z2, z3, z4⟩
    have d0 := (z1).cell 0
    have d1 := (z1).cell 1
    have d2 := (z1).cell 2
    simp only [List.getElem?_toArray, List.getElem?_cons_zero, List.getElem?_cons_succ] at d0 d1 d2
    have f0 := (z2).cell 0
    simp only [List.getElem?_toArray, List.getElem?_cons_zero, List.getElem?_cons_succ] at f0
    have g0 := (z3).cell 0
    simp only [List.getElem?_toArray, List.getElem?_cons_zero, List.getElem?_cons_succ] at g0
    have bz := (bnext HB0.out b1).trans (z4 w.heap.size (by omega) (by omega) (by omega))
    simp [Leaves, settle, results, Tryd.results29, go_sem, d0, d1, d2, f0, g0, askR]
    exact bz
  · rw [fltE_170] at HK
    clear HF
    go_enter_defers Tryd.func29, Tryd.ntmps29
    go_wp2_with fail
    refine HK.out.mono ?_
    rintro e w1 ⟨rfl, b1⟩
    go_wp2_with fail
    refine leaves_cons (f := 52) (args := #[.pointer (some ⟨w.heap.size + 1, 0, none⟩), .pointer (some ⟨w.heap.size + 1 + 1, 0, none⟩), .pointer (some ⟨w.heap.size + 1 + 1 + 1, 0, none⟩)]) (by simp) (by simp [go_sem]) ?_
    have y1 := X.out.2.1.below b1 X.out.2.1.lt
    have y2 := X.out.2.2.1.below b1 X.out.2.2.1.lt
    have y3 := X.out.2.2.2.below b1 X.out.2.2.2.lt
    with_reducible refine (ask_pan (w.heap.size + 1) (w.heap.size + 1 + 1) (w.heap.size + 1 + 1 + 1) (.int .i64 0) (.int .i64 0) (.bool false) (.int .i64 0) (.int .i64 0) 170 [] _ y1 y2 y3 (by omega) (by omega) (by omega) (by omega) (by omega) (by omega)).mono ?_
    rintro e u' wz ⟨rfl, rfl, z1, z2, z3, z4⟩
    have d0 := (z1).cell 0
    have d1 := (z1).cell 1
    have d2 := (z1).cell 2
    simp only [List.getElem?_toArray, List.getElem?_cons_zero, List.getElem?_cons_succ] at d0 d1 d2
    have f0 := (z2).cell 0
    simp only [List.getElem?_toArray, List.getElem?_cons_zero, List.getElem?_cons_succ] at f0
    have g0 := (z3).cell 0
    simp only [List.getElem?_toArray, List.getElem?_cons_zero, List.getElem?_cons_succ] at g0
    have bz := (bnext HB0.out b1).trans (z4 w.heap.size (by omega) (by omega) (by omega))
    simp [Leaves, settle, results, Tryd.results29, go_sem, d0, d1, d2, f0, g0, askR]
    exact bz
  · rw [fltE_0] at HK
    go_enter_defers Tryd.func29, Tryd.ntmps29
    go_wp2_with fail
    refine HK.out.mono ?_
    rintro e w1 ⟨rfl, b1⟩
    have y0 := X.out.1.below b1 X.out.1.lt
    have y1 := X.out.2.1.below b1 X.out.2.1.lt
    have y2 := X.out.2.2.1.below b1 X.out.2.2.1.lt
    have y3 := X.out.2.2.2.below b1 X.out.2.2.2.lt
    have BB := bnext HB0.out b1
    go_wp2_with fail
    refine (HF.out _ hoc hon BB y0).mono ?_
    rintro e w2 ⟨rfl, z0, gz⟩
    replace y1 := only_cell gz y1 (by omega)
    replace y2 := only_cell gz y2 (by omega)
    replace y3 := only_cell gz y3 (by omega)
    replace BB := only_below BB gz (Nat.le_refl _)
    obtain ⟨⟨xd, xu, xw⟩, xk⟩ := x
    simp only at z0
    have v2 := y2.cell 0
    have g2 := y2.frozen 0
    simp only [List.getElem?_toArray, List.getElem?_cons_zero] at v2
    clear b1 gz y0 X HB0 HK HF hoc hon hop
    replace z0 := z0.far (p := ⟨w.heap.size + 1 + 1, 0, none⟩) (by show ¬ w.heap.size = w.heap.size + 1 + 1; omega) (.int .i64 xk)
    replace y1 := y1.far (p := ⟨w.heap.size + 1 + 1, 0, none⟩) (by show ¬ w.heap.size + 1 = w.heap.size + 1 + 1; omega) (.int .i64 xk)
    replace y3 := y3.far (p := ⟨w.heap.size + 1 + 1, 0, none⟩) (by show ¬ w.heap.size + 1 + 1 + 1 = w.heap.size + 1 + 1; omega) (.int .i64 xk)
    replace y2 := y2.set 0 (.int .i64 xk)
    replace BB := BB.setCell (p := ⟨w.heap.size + 1 + 1, 0, none⟩) (by show w.heap.size ≤ w.heap.size + 1 + 1; omega) (.int .i64 xk)
    simp only [List.setIfInBounds_toArray, List.set_cons_zero, List.set_cons_succ] at y2
    go_wp2_with fail
    generalize (w2.setCell ⟨w.heap.size + 1 + 1, 0, none⟩ (.int .i64 xk)) = w3 at *
    clear v2 g2
    have Z := Lib.hid (And.intro y1 (And.intro y2 (And.intro y3 BB)))
    have c0 := (z0).cell 0
    have c1 := (z0).cell 1
    have c2 := (z0).cell 2
    simp only [List.getElem?_toArray, List.getElem?_cons_zero, List.getElem?_cons_succ] at c0 c1 c2
    have d0 := (y1).cell 0
    have d1 := (y1).cell 1
    have d2 := (y1).cell 2
    simp only [List.getElem?_toArray, List.getElem?_cons_zero, List.getElem?_cons_succ] at d0 d1 d2
    have f0 := (y2).cell 0
    simp only [List.getElem?_toArray, List.getElem?_cons_zero, List.getElem?_cons_succ] at f0
    have g0 := (y3).cell 0
    simp only [List.getElem?_toArray, List.getElem?_cons_zero, List.getElem?_cons_succ] at g0
    have q0 := y1.frozen 0
    have q1 := y1.frozen 1
    have q2 := y1.frozen 2
    have q3 := y2.frozen 0
    have q4 := y3.frozen 0
    clear z0 y1 y2 y3 BB
    go_region
    go_wp2_with fail
    refine leaves_cons (f := 52) (args := #[.pointer (some ⟨w.heap.size + 1, 0, none⟩), .pointer (some ⟨w.heap.size + 1 + 1, 0, none⟩), .pointer (some ⟨w.heap.size + 1 + 1 + 1, 0, none⟩)]) (by simp) (by simp [go_sem]) ?_
    with_reducible refine (ask_idle (w.heap.size + 1) (w.heap.size + 1 + 1) (w.heap.size + 1 + 1 + 1) _).mono ?_
    rintro e u' wz ⟨rfl, rfl, rfl⟩

    clear c0 c1 c2 d0 d1 d2 f0 g0 q0 q1 q2 q3 q4
    have zm : Blk ((((((w3.setCell ⟨w.heap.size + 1, 0, none⟩ (.int .i64 xd)).setCell ⟨w.heap.size + 1, 1, none⟩ (.int .i64 xu)).setCell ⟨w.heap.size + 1, 2, none⟩ (.bool xw)).setCell ⟨w.heap.size + 1 + 1, 0, none⟩ (.int .i64 xk)).setCell ⟨w.heap.size + 1 + 1 + 1, 0, none⟩ (.int .i64 0)).drew.alloc (.cells #[.int .i64 0] 55)) (w.heap.size + 1) 28 #[.int .i64 xd, .int .i64 xu, .bool xw] := by
      have := (((((Z.out.1.set 0 (.int .i64 xd)).set 1 (.int .i64 xu)).set 2 (.bool xw)).far (p := ⟨w.heap.size + 1 + 1, 0, none⟩) (by show ¬ w.heap.size + 1 = w.heap.size + 1 + 1; omega) (.int .i64 xk)).far (p := ⟨w.heap.size + 1 + 1 + 1, 0, none⟩) (by show ¬ w.heap.size + 1 = w.heap.size + 1 + 1 + 1; omega) (.int .i64 0))
      simp only [List.setIfInBounds_toArray, List.set_cons_zero, List.set_cons_succ] at this
      exact (this.drewN 1).alloc _
    have m0 := (zm).cell 0
    have m1 := (zm).cell 1
    have m2 := (zm).cell 2
    simp only [List.getElem?_toArray, List.getElem?_cons_zero, List.getElem?_cons_succ] at m0 m1 m2
    have zr : Blk ((((((w3.setCell ⟨w.heap.size + 1, 0, none⟩ (.int .i64 xd)).setCell ⟨w.heap.size + 1, 1, none⟩ (.int .i64 xu)).setCell ⟨w.heap.size + 1, 2, none⟩ (.bool xw)).setCell ⟨w.heap.size + 1 + 1, 0, none⟩ (.int .i64 xk)).setCell ⟨w.heap.size + 1 + 1 + 1, 0, none⟩ (.int .i64 0)).drew.alloc (.cells #[.int .i64 0] 55)) (w.heap.size + 1 + 1) 36 #[.int .i64 xk] := by
      have := (((((Z.out.2.1.far (p := ⟨w.heap.size + 1, 0, none⟩) (by show ¬ w.heap.size + 1 + 1 = w.heap.size + 1; omega) (.int .i64 xd)).far (p := ⟨w.heap.size + 1, 1, none⟩) (by show ¬ w.heap.size + 1 + 1 = w.heap.size + 1; omega) (.int .i64 xu)).far (p := ⟨w.heap.size + 1, 2, none⟩) (by show ¬ w.heap.size + 1 + 1 = w.heap.size + 1; omega) (.bool xw)).set 0 (.int .i64 xk)).far (p := ⟨w.heap.size + 1 + 1 + 1, 0, none⟩) (by show ¬ w.heap.size + 1 + 1 = w.heap.size + 1 + 1 + 1; omega) (.int .i64 0))
      simp only [List.setIfInBounds_toArray, List.set_cons_zero, List.set_cons_succ] at this
      exact (this.drewN 1).alloc _
    have r0 := (zr).cell 0
    simp only [List.getElem?_toArray, List.getElem?_cons_zero, List.getElem?_cons_succ] at r0
    have zu : Blk ((((((w3.setCell ⟨w.heap.size + 1, 0, none⟩ (.int .i64 xd)).setCell ⟨w.heap.size + 1, 1, none⟩ (.int .i64 xu)).setCell ⟨w.heap.size + 1, 2, none⟩ (.bool xw)).setCell ⟨w.heap.size + 1 + 1, 0, none⟩ (.int .i64 xk)).setCell ⟨w.heap.size + 1 + 1 + 1, 0, none⟩ (.int .i64 0)).drew.alloc (.cells #[.int .i64 0] 55)) (w.heap.size + 1 + 1 + 1) 29 #[.int .i64 0] := by
      have := (((((Z.out.2.2.1.far (p := ⟨w.heap.size + 1, 0, none⟩) (by show ¬ w.heap.size + 1 + 1 + 1 = w.heap.size + 1; omega) (.int .i64 xd)).far (p := ⟨w.heap.size + 1, 1, none⟩) (by show ¬ w.heap.size + 1 + 1 + 1 = w.heap.size + 1; omega) (.int .i64 xu)).far (p := ⟨w.heap.size + 1, 2, none⟩) (by show ¬ w.heap.size + 1 + 1 + 1 = w.heap.size + 1; omega) (.bool xw)).far (p := ⟨w.heap.size + 1 + 1, 0, none⟩) (by show ¬ w.heap.size + 1 + 1 + 1 = w.heap.size + 1 + 1; omega) (.int .i64 xk)).set 0 (.int .i64 0))
      simp only [List.setIfInBounds_toArray, List.set_cons_zero, List.set_cons_succ] at this
      exact (this.drewN 1).alloc _
    have u0 := (zu).cell 0
    simp only [List.getElem?_toArray, List.getElem?_cons_zero, List.getElem?_cons_succ] at u0
    have bz : Below w.heap.size w ((((((w3.setCell ⟨w.heap.size + 1, 0, none⟩ (.int .i64 xd)).setCell ⟨w.heap.size + 1, 1, none⟩ (.int .i64 xu)).setCell ⟨w.heap.size + 1, 2, none⟩ (.bool xw)).setCell ⟨w.heap.size + 1 + 1, 0, none⟩ (.int .i64 xk)).setCell ⟨w.heap.size + 1 + 1 + 1, 0, none⟩ (.int .i64 0)).drew.alloc (.cells #[.int .i64 0] 55)) := balloc (below_drewN (((((Z.out.2.2.2.setCell (p := ⟨w.heap.size + 1, 0, none⟩) (by show w.heap.size ≤ w.heap.size + 1; omega) (.int .i64 xd)).setCell (p := ⟨w.heap.size + 1, 1, none⟩) (by show w.heap.size ≤ w.heap.size + 1; omega) (.int .i64 xu)).setCell (p := ⟨w.heap.size + 1, 2, none⟩) (by show w.heap.size ≤ w.heap.size + 1; omega) (.bool xw)).setCell (p := ⟨w.heap.size + 1 + 1, 0, none⟩) (by show w.heap.size ≤ w.heap.size + 1 + 1; omega) (.int .i64 xk)).setCell (p := ⟨w.heap.size + 1 + 1 + 1, 0, none⟩) (by show w.heap.size ≤ w.heap.size + 1 + 1 + 1; omega) (.int .i64 0)) 1) _
    clear zm zr zu
    generalize ((((((w3.setCell ⟨w.heap.size + 1, 0, none⟩ (.int .i64 xd)).setCell ⟨w.heap.size + 1, 1, none⟩ (.int .i64 xu)).setCell ⟨w.heap.size + 1, 2, none⟩ (.bool xw)).setCell ⟨w.heap.size + 1 + 1, 0, none⟩ (.int .i64 xk)).setCell ⟨w.heap.size + 1 + 1 + 1, 0, none⟩ (.int .i64 0)).drew.alloc (.cells #[.int .i64 0] 55)) = wz at *
    simp [Leaves, settle, results, Tryd.results29, go_sem, m0, m1, m2, r0, u0, askR]
    exact bz

theorem okT_0 : (okT 0 && okT 0) = true := rfl
set_option maxHeartbeats 2000000 in
theorem begin_any (p j t h g q s cp : Int) (A : Option Addr) (n k B : Nat) (l : List (Nat × Int)) (hn : l.length = n) (nw dr : Int) (w : World) (hr : Rd w B A (plC l)) (hB : B ≤ w.heap.size) (hnk : n ≤ k) (hk : k ≤ 9223372036854775807) (hl : ∀ x ∈ l, x.1 < 4294967296) (hw : CapsAt w) :
    Calls Tryd.prog 10 #[.agg #[.int .i64 p, .int .i64 j, .int .i64 t, .int .i64 h, .int .i64 g, .int .i64 q, .int .i64 s, .int .i64 cp, .slice A n k], .int .i64 nw, .int .i64 dr] w fun e w' => e = .returned (begR (askE (okC p j t h g q s cp l) true (okN nw)) (nw + (p + max 0 (min dr j))) nw) ∧ Below w.heap.size w w' := by
  have x0 := ((((Blk.new w 24 #[.int .i64 p, .int .i64 j, .int .i64 t, .int .i64 h, .int .i64 g, .int .i64 q, .int .i64 s, .int .i64 cp, .slice A n k]).alloc (.cells #[.int .i64 0, .int .i64 0, .bool false] 28)).alloc (.cells #[.int .i64 0] 29)).alloc (.cells #[.int .i64 0, .int .i64 0, .bool false, .int .i64 p, .int .i64 j, .int .i64 t, .int .i64 h, .int .i64 g, .int .i64 q, .int .i64 s, .int .i64 cp, .slice A n k, .int .i64 nw, .int .i64 dr] 58))
  have x1 := (((Blk.new (w.alloc (.cells #[.int .i64 p, .int .i64 j, .int .i64 t, .int .i64 h, .int .i64 g, .int .i64 q, .int .i64 s, .int .i64 cp, .slice A n k] 24)) 28 #[.int .i64 0, .int .i64 0, .bool false]).alloc (.cells #[.int .i64 0] 29)).alloc (.cells #[.int .i64 0, .int .i64 0, .bool false, .int .i64 p, .int .i64 j, .int .i64 t, .int .i64 h, .int .i64 g, .int .i64 q, .int .i64 s, .int .i64 cp, .slice A n k, .int .i64 nw, .int .i64 dr] 58))
  rw [World.size_alloc] at x1
  have x2 := ((Blk.new ((w.alloc (.cells #[.int .i64 p, .int .i64 j, .int .i64 t, .int .i64 h, .int .i64 g, .int .i64 q, .int .i64 s, .int .i64 cp, .slice A n k] 24)).alloc (.cells #[.int .i64 0, .int .i64 0, .bool false] 28)) 29 #[.int .i64 0]).alloc (.cells #[.int .i64 0, .int .i64 0, .bool false, .int .i64 p, .int .i64 j, .int .i64 t, .int .i64 h, .int .i64 g, .int .i64 q, .int .i64 s, .int .i64 cp, .slice A n k, .int .i64 nw, .int .i64 dr] 58))
  rw [World.size_alloc, World.size_alloc] at x2
  have x3 := (Blk.new (((w.alloc (.cells #[.int .i64 p, .int .i64 j, .int .i64 t, .int .i64 h, .int .i64 g, .int .i64 q, .int .i64 s, .int .i64 cp, .slice A n k] 24)).alloc (.cells #[.int .i64 0, .int .i64 0, .bool false] 28)).alloc (.cells #[.int .i64 0] 29)) 58 #[.int .i64 0, .int .i64 0, .bool false, .int .i64 p, .int .i64 j, .int .i64 t, .int .i64 h, .int .i64 g, .int .i64 q, .int .i64 s, .int .i64 cp, .slice A n k, .int .i64 nw, .int .i64 dr])
  rw [World.size_alloc, World.size_alloc, World.size_alloc] at x3
  have B0 : Below w.heap.size w ((((w.alloc (.cells #[.int .i64 p, .int .i64 j, .int .i64 t, .int .i64 h, .int .i64 g, .int .i64 q, .int .i64 s, .int .i64 cp, .slice A n k] 24)).alloc (.cells #[.int .i64 0, .int .i64 0, .bool false] 28)).alloc (.cells #[.int .i64 0] 29)).alloc (.cells #[.int .i64 0, .int .i64 0, .bool false, .int .i64 p, .int .i64 j, .int .i64 t, .int .i64 h, .int .i64 g, .int .i64 q, .int .i64 s, .int .i64 cp, .slice A n k, .int .i64 nw, .int .i64 dr] 58)) := balloc (balloc (balloc (balloc (Below.refl _ w) (.cells #[.int .i64 p, .int .i64 j, .int .i64 t, .int .i64 h, .int .i64 g, .int .i64 q, .int .i64 s, .int .i64 cp, .slice A n k] 24)) (.cells #[.int .i64 0, .int .i64 0, .bool false] 28)) (.cells #[.int .i64 0] 29)) (.cells #[.int .i64 0, .int .i64 0, .bool false, .int .i64 p, .int .i64 j, .int .i64 t, .int .i64 h, .int .i64 g, .int .i64 q, .int .i64 s, .int .i64 cp, .slice A n k, .int .i64 nw, .int .i64 dr] 58)
  have HK := Lib.hid (pcheck_any (w.heap.size + 1 + 1 + 1) p j t h g q s cp A n k B l hn 0 0 nw dr false ((((w.alloc (.cells #[.int .i64 p, .int .i64 j, .int .i64 t, .int .i64 h, .int .i64 g, .int .i64 q, .int .i64 s, .int .i64 cp, .slice A n k] 24)).alloc (.cells #[.int .i64 0, .int .i64 0, .bool false] 28)).alloc (.cells #[.int .i64 0] 29)).alloc (.cells #[.int .i64 0, .int .i64 0, .bool false, .int .i64 p, .int .i64 j, .int .i64 t, .int .i64 h, .int .i64 g, .int .i64 q, .int .i64 s, .int .i64 cp, .slice A n k, .int .i64 nw, .int .i64 dr] 58)) x3 (hr.below (B0.mono hB)) (by simp; omega) hnk hk hl (hw.below B0))
  rw [okT_0] at HK
  have HF := Lib.hid (fun W (hc : okC p j t h g q s cp l = true) (hN : okN nw = true) (hW : Below w.heap.size w W) (h0 : Blk W (w.heap.size + 1 + 1 + 1) 58 #[.int .i64 0, .int .i64 0, .bool false, .int .i64 p, .int .i64 j, .int .i64 t, .int .i64 h, .int .i64 g, .int .i64 q, .int .i64 s, .int .i64 cp, .slice A n k, .int .i64 nw, .int .i64 dr]) => behindW_any (w.heap.size + 1 + 1 + 1) p j t h g q s cp A n k B l hn 0 0 nw dr false W h0 (hr.below (hW.mono hB)) (by have := hW.size; omega) hnk hk hl (hw.below hW) hc hN)
  have X := Lib.hid (And.intro x0 (And.intro x1 (And.intro x2 x3)))
  have HB0 := Lib.hid B0
  have hmf : ∀ (fn : Fn) (first cap : Array Value) (w : World), (Instr.makeFunc fn first cap).run Tryd.prog w = .ok (.func fn first cap) w := fun _ _ _ _ => rfl
  clear hr hl hw x0 x1 x2 x3 B0
  have hE := askE_cases (okC p j t h g q s cp l) true (okN nw)
  generalize askE (okC p j t h g q s cp l) true (okN nw) = er at *
  generalize nw + (p + max 0 (min dr j)) = yw at *
  rcases hE with rfl | rfl | ⟨rfl, hoc, hop, hon⟩
  · rw [fltE_2] at HK
    clear HF
    go_enter_defers Tryd.func10, Tryd.ntmps10
    go_wp2_with fail
    refine HK.out.mono ?_
    rintro e w1 ⟨rfl, b1⟩
    go_wp2_with fail
    refine leaves_cons (f := 23) (args := #[.pointer (some ⟨w.heap.size + 1, 0, none⟩), .pointer (some ⟨w.heap.size + 1 + 1, 0, none⟩)]) (by simp) (by simp [go_sem]) ?_
    have y1 := X.out.2.1.below b1 X.out.2.1.lt
    have y2 := X.out.2.2.1.below b1 X.out.2.2.1.lt
    with_reducible refine (begin_pan (w.heap.size + 1) (w.heap.size + 1 + 1) (.int .i64 0) (.int .i64 0) (.bool false) (.int .i64 0) 2 [] _ y1 y2 (by omega) (by omega)).mono ?_
    rintro e u' wz ⟨rfl, rfl, z1, z2, z4⟩
    have d0 := (z1).cell 0
    have d1 := (z1).cell 1
    have d2 := (z1).cell 2
    simp only [List.getElem?_toArray, List.getElem?_cons_zero, List.getElem?_cons_succ] at d0 d1 d2
    have f0 := (z2).cell 0
    simp only [List.getElem?_toArray, List.getElem?_cons_zero, List.getElem?_cons_succ] at f0
    have bz := (bnext HB0.out b1).trans (z4 w.heap.size (by omega) (by omega))
    simp [Leaves, settle, results, Tryd.results10, go_sem, d0, d1, d2, f0, begR]
    exact bz
  · rw [fltE_170] at HK
    clear HF
    go_enter_defers Tryd.func10, Tryd.ntmps10
    go_wp2_with fail
    refine HK.out.mono ?_
    rintro e w1 ⟨rfl, b1⟩
    go_wp2_with fail
    refine leaves_cons (f := 23) (args := #[.pointer (some ⟨w.heap.size + 1, 0, none⟩), .pointer (some ⟨w.heap.size + 1 + 1, 0, none⟩)]) (by simp) (by simp [go_sem]) ?_
    have y1 := X.out.2.1.below b1 X.out.2.1.lt
    have y2 := X.out.2.2.1.below b1 X.out.2.2.1.lt
    with_reducible refine (begin_pan (w.heap.size + 1) (w.heap.size + 1 + 1) (.int .i64 0) (.int .i64 0) (.bool false) (.int .i64 0) 170 [] _ y1 y2 (by omega) (by omega)).mono ?_
    rintro e u' wz ⟨rfl, rfl, z1, z2, z4⟩
    have d0 := (z1).cell 0
    have d1 := (z1).cell 1
    have d2 := (z1).cell 2
    simp only [List.getElem?_toArray, List.getElem?_cons_zero, List.getElem?_cons_succ] at d0 d1 d2
    have f0 := (z2).cell 0
    simp only [List.getElem?_toArray, List.getElem?_cons_zero, List.getElem?_cons_succ] at f0
    have bz := (bnext HB0.out b1).trans (z4 w.heap.size (by omega) (by omega))
    simp [Leaves, settle, results, Tryd.results10, go_sem, d0, d1, d2, f0, begR]
    exact bz
  · rw [fltE_0] at HK
    go_enter_defers Tryd.func10, Tryd.ntmps10
    go_wp2_with fail
    refine HK.out.mono ?_
    rintro e w1 ⟨rfl, b1⟩
    have y1 := X.out.2.1.below b1 X.out.2.1.lt
    have y2 := X.out.2.2.1.below b1 X.out.2.2.1.lt
    have y3 := X.out.2.2.2.below b1 X.out.2.2.2.lt
    have BB := bnext HB0.out b1
    go_wp2_with fail
    refine (HF.out _ hoc hon BB y3).mono ?_
    rintro e w2 ⟨rfl, b2⟩
    replace y1 := y1.below b2 y1.lt
    replace y2 := y2.below b2 y2.lt
    replace BB := bnext BB b2
    clear b1 b2 y3 X HB0 HK HF hoc hon hop
    have Z := Lib.hid (And.intro y1 (And.intro y2 BB))
    have d0 := (y1).cell 0
    have d1 := (y1).cell 1
    have d2 := (y1).cell 2
    simp only [List.getElem?_toArray, List.getElem?_cons_zero, List.getElem?_cons_succ] at d0 d1 d2
    have f0 := (y2).cell 0
    simp only [List.getElem?_toArray, List.getElem?_cons_zero, List.getElem?_cons_succ] at f0
    have q0 := y1.frozen 0
    have q1 := y1.frozen 1
    have q2 := y1.frozen 2
    have q3 := y2.frozen 0
    clear y1 y2 BB
    go_wp2_with fail
    refine leaves_cons (f := 23) (args := #[.pointer (some ⟨w.heap.size + 1, 0, none⟩), .pointer (some ⟨w.heap.size + 1 + 1, 0, none⟩)]) (by simp) (by simp [go_sem]) ?_
    with_reducible refine (begin_idle (w.heap.size + 1) (w.heap.size + 1 + 1) _).mono ?_
    rintro e u' wz ⟨rfl, rfl, rfl⟩
    clear d0 d1 d2 f0 q0 q1 q2 q3
    have zm : Blk (((((w2.setCell ⟨w.heap.size + 1, 0, none⟩ (.int .i64 yw)).setCell ⟨w.heap.size + 1, 1, none⟩ (.int .i64 nw)).setCell ⟨w.heap.size + 1, 2, none⟩ (.bool false)).setCell ⟨w.heap.size + 1 + 1, 0, none⟩ (.int .i64 0)).alloc (.cells #[.int .i64 0] 55)) (w.heap.size + 1) 28 #[.int .i64 yw, .int .i64 nw, .bool false] := by
      have := ((((Z.out.1.set 0 (.int .i64 yw)).set 1 (.int .i64 nw)).set 2 (.bool false)).far (p := ⟨w.heap.size + 1 + 1, 0, none⟩) (by show ¬ w.heap.size + 1 = w.heap.size + 1 + 1; omega) (.int .i64 0))
      simp only [List.setIfInBounds_toArray, List.set_cons_zero, List.set_cons_succ] at this
      exact this.alloc _
    have m0 := (zm).cell 0
    have m1 := (zm).cell 1
    have m2 := (zm).cell 2
    simp only [List.getElem?_toArray, List.getElem?_cons_zero, List.getElem?_cons_succ] at m0 m1 m2
    have zu : Blk (((((w2.setCell ⟨w.heap.size + 1, 0, none⟩ (.int .i64 yw)).setCell ⟨w.heap.size + 1, 1, none⟩ (.int .i64 nw)).setCell ⟨w.heap.size + 1, 2, none⟩ (.bool false)).setCell ⟨w.heap.size + 1 + 1, 0, none⟩ (.int .i64 0)).alloc (.cells #[.int .i64 0] 55)) (w.heap.size + 1 + 1) 29 #[.int .i64 0] := by
      have := ((((Z.out.2.1.far (p := ⟨w.heap.size + 1, 0, none⟩) (by show ¬ w.heap.size + 1 + 1 = w.heap.size + 1; omega) (.int .i64 yw)).far (p := ⟨w.heap.size + 1, 1, none⟩) (by show ¬ w.heap.size + 1 + 1 = w.heap.size + 1; omega) (.int .i64 nw)).far (p := ⟨w.heap.size + 1, 2, none⟩) (by show ¬ w.heap.size + 1 + 1 = w.heap.size + 1; omega) (.bool false)).set 0 (.int .i64 0))
      simp only [List.setIfInBounds_toArray, List.set_cons_zero, List.set_cons_succ] at this
      exact this.alloc _
    have u0 := (zu).cell 0
    simp only [List.getElem?_toArray, List.getElem?_cons_zero, List.getElem?_cons_succ] at u0
    have bz : Below w.heap.size w (((((w2.setCell ⟨w.heap.size + 1, 0, none⟩ (.int .i64 yw)).setCell ⟨w.heap.size + 1, 1, none⟩ (.int .i64 nw)).setCell ⟨w.heap.size + 1, 2, none⟩ (.bool false)).setCell ⟨w.heap.size + 1 + 1, 0, none⟩ (.int .i64 0)).alloc (.cells #[.int .i64 0] 55)) := balloc (((((Z.out.2.2.setCell (p := ⟨w.heap.size + 1, 0, none⟩) (by show w.heap.size ≤ w.heap.size + 1; omega) (.int .i64 yw)).setCell (p := ⟨w.heap.size + 1, 1, none⟩) (by show w.heap.size ≤ w.heap.size + 1; omega) (.int .i64 nw)).setCell (p := ⟨w.heap.size + 1, 2, none⟩) (by show w.heap.size ≤ w.heap.size + 1; omega) (.bool false)).setCell (p := ⟨w.heap.size + 1 + 1, 0, none⟩) (by show w.heap.size ≤ w.heap.size + 1 + 1; omega) (.int .i64 0))) _
    clear zm zu
    generalize (((((w2.setCell ⟨w.heap.size + 1, 0, none⟩ (.int .i64 yw)).setCell ⟨w.heap.size + 1, 1, none⟩ (.int .i64 nw)).setCell ⟨w.heap.size + 1, 2, none⟩ (.bool false)).setCell ⟨w.heap.size + 1 + 1, 0, none⟩ (.int .i64 0)).alloc (.cells #[.int .i64 0] 55)) = wz at *
    simp [Leaves, settle, results, Tryd.results10, go_sem, m0, m1, m2, u0, begR]
    exact bz

end Go.Proofs.YtlgkjboamfgbeaaDoor
