/- pulse: Change, Tick, Next, and the document's answers. -/
import Derived.Test.YtlgkjboamfgbeaaDoorPul6
namespace Go.Proofs.YtlgkjboamfgbeaaDoor
set_option linter.unusedVariables false
set_option linter.unusedSimpArgs false
open Go.RowKit
set_option maxRecDepth 100000

theorem eq_pulse (a b a' b' : Int) (c c' : Bool) (w : World) : (binOp .eql 28 (.agg #[.int .i64 a, .int .i64 b, .bool c]) (.agg #[.int .i64 a', .int .i64 b', .bool c'])).run Tryd.prog w = .ok (.bool (a == a' && b == b' && c == c')) w := by
  have h1 : Tryd.prog.underlying 28 = some (.struct (Tryd.prog.fieldsOf 28)) := by simp [Program.fieldsOf, Tryd.underlying28]
  have h2 := run_equalIn_struct (P := Tryd.prog) w 9999 28 #[.int .i64 a, .int .i64 b, .bool c] #[.int .i64 a', .int .i64 b', .bool c'] h1 (by kernel_rfl)
  simp only [binOp]
  simp only [Op.equal, Op.maxDepth, Sem.run_bind, h2]
  by_cases e1 : a = a' <;> simp [go_sem, e1]
  by_cases e2 : b = b' <;> simp [go_sem, e2]
  cases c <;> cases c' <;> rfl

/-- what is told of what was asked -/
def pres (er : Int) (x : (Int × Int × Bool) × Int) : (Int × Int × Bool) × Int := if er = 0 then x else ((0, 0, false), 0)
theorem askR_eq (er : Int) (x y : (Int × Int × Bool) × Int) (h : pres er x = y) : askR er x = .tuple #[.agg #[.int .i64 y.1.1, .int .i64 y.1.2.1, .bool y.1.2.2], .int .i64 y.2, .int .i64 er] := by
  subst h
  unfold askR pres
  split <;> simp_all
theorem begR_eq (er du un : Int) (y : (Int × Int × Bool) × Int) (h : pres er ((du, un, false), 0) = y) : begR er du un = .tuple #[.agg #[.int .i64 y.1.1, .int .i64 y.1.2.1, .bool y.1.2.2], .int .i64 er] := by
  subst h
  unfold begR pres
  split <;> simp_all
theorem enterC (args : Array Value) (w : World) : (callFunc 30 args).run Tryd.prog w = .ok (.enter 30 args) w := by kernel_rfl
theorem enterT (args : Array Value) (w : World) : (callFunc 31 args).run Tryd.prog w = .ok (.enter 31 args) w := by kernel_rfl
/-- a pulse is handed back, what is told, and an error -/
def GivesP (y : (Int × Int × Bool) × Int) (er : Int) (w : World) (e : Ending) (w' : World) : Prop := e = .returned (.tuple #[.agg #[.int .i64 y.1.1, .int .i64 y.1.2.1, .bool y.1.2.2], .int .i64 y.2, .int .i64 er]) ∧ Below w.heap.size w w'

section
variable (p j t h g q s cp : Int) (A : Option Addr) (n k B : Nat) (l : List (Nat × Int)) (hn : l.length = n) (du un nw dr : Int) (wt : Bool) (w : World) (hr : Rd w B A (plC l)) (hB : B ≤ w.heap.size) (hnk : n ≤ k) (hk : k ≤ 9223372036854775807) (hl : ∀ x ∈ l, x.1 < 4294967296) (hw : CapsAt w)
include hn hr hB hnk hk hl hw

set_option maxHeartbeats 1000000 in
theorem pchange_any :
    Calls Tryd.prog 14 #[.agg #[.int .i64 p, .int .i64 j, .int .i64 t, .int .i64 h, .int .i64 g, .int .i64 q, .int .i64 s, .int .i64 cp, .slice A n k], .agg #[.int .i64 du, .int .i64 un, .bool wt], .int .i64 nw, .int .i64 dr] w (GivesP (pres (askE (okC p j t h g q s cp l) (okT du && okT un) (okN nw)) (chgF q s du un wt nw dr)) (askE (okC p j t h g q s cp l) (okT du && okT un) (okN nw)) w) := by
  have B0 : Below w.heap.size w (((w.alloc (.cells #[.int .i64 p, .int .i64 j, .int .i64 t, .int .i64 h, .int .i64 g, .int .i64 q, .int .i64 s, .int .i64 cp, .slice A n k] 24)).alloc (.cells #[.int .i64 du, .int .i64 un, .bool wt] 28)).alloc (.cells #[.int .i64 0, .int .i64 0, .bool false] 28)) := balloc (balloc (balloc (Below.refl _ w) _) _) _
  have HA := Lib.hid (ask_any 30 (chgF q s du un wt nw dr) p j t h g q s cp A n k B l hn du un nw dr wt (((w.alloc (.cells #[.int .i64 p, .int .i64 j, .int .i64 t, .int .i64 h, .int .i64 g, .int .i64 q, .int .i64 s, .int .i64 cp, .slice A n k] 24)).alloc (.cells #[.int .i64 du, .int .i64 un, .bool wt] 28)).alloc (.cells #[.int .i64 0, .int .i64 0, .bool false] 28)) (hr.below (B0.mono hB)) (by have := B0.size; omega) hnk hk hl (hw.below B0) enterC
    (fun W hc hN hb hR hBW hC => change_any _ p j t h g q s cp A n k B l hn du un nw dr wt W hb hR hBW hnk hk hl hC hc hN))
  generalize askE (okC p j t h g q s cp l) (okT du && okT un) (okN nw) = er at *
  generalize hy : pres er (chgF q s du un wt nw dr) = y
  rw [askR_eq er _ y hy] at HA
  clear hy hr hl hw
  have HB0 := Lib.hid B0
  clear B0
  go_enter Tryd.func14, Tryd.ntmps14
  go_wp2_with fail
  refine HA.out.mono ?_
  rintro e w1 ⟨rfl, b1⟩
  have x2 := Blk.new ((w.alloc (.cells #[.int .i64 p, .int .i64 j, .int .i64 t, .int .i64 h, .int .i64 g, .int .i64 q, .int .i64 s, .int .i64 cp, .slice A n k] 24)).alloc (.cells #[.int .i64 du, .int .i64 un, .bool wt] 28)) 28 #[.int .i64 0, .int .i64 0, .bool false]
  rw [World.size_alloc, World.size_alloc] at x2
  have y2 := x2.below b1 x2.lt
  have BB := bnext HB0.out b1
  clear x2 b1
  have d0 := (y2).cell 0
  have d1 := (y2).cell 1
  have d2 := (y2).cell 2
  simp only [List.getElem?_toArray, List.getElem?_cons_zero, List.getElem?_cons_succ] at d0 d1 d2
  have f0 := y2.frozen 0
  have f1 := y2.frozen 1
  have f2 := y2.frozen 2
  go_wp2_with fail
  have z := ((y2.set 0 (.int .i64 y.1.1)).set 1 (.int .i64 y.1.2.1)).set 2 (.bool y.1.2.2)
  simp only [List.setIfInBounds_toArray, List.set_cons_zero, List.set_cons_succ] at z
  have bz := ((BB.setCell (p := ⟨w.heap.size + 1 + 1, 0, none⟩) (by show w.heap.size ≤ w.heap.size + 1 + 1; omega) (.int .i64 y.1.1)).setCell (p := ⟨w.heap.size + 1 + 1, 1, none⟩) (by show w.heap.size ≤ w.heap.size + 1 + 1; omega) (.int .i64 y.1.2.1)).setCell (p := ⟨w.heap.size + 1 + 1, 2, none⟩) (by show w.heap.size ≤ w.heap.size + 1 + 1; omega) (.bool y.1.2.2)
  clear d0 d1 d2
  clear y2 BB HB0 HA f0 f1 f2
  have d0 := (z).cell 0
  have d1 := (z).cell 1
  have d2 := (z).cell 2
  simp only [List.getElem?_toArray, List.getElem?_cons_zero, List.getElem?_cons_succ] at d0 d1 d2
  clear z
  generalize (((w1.setCell ⟨w.heap.size + 1 + 1, 0, none⟩ (.int .i64 y.1.1)).setCell ⟨w.heap.size + 1 + 1, 1, none⟩ (.int .i64 y.1.2.1)).setCell ⟨w.heap.size + 1 + 1, 2, none⟩ (.bool y.1.2.2)) = wz at *
  exact bodyPost_ret (v := .tuple #[.agg #[.int .i64 y.1.1, .int .i64 y.1.2.1, .bool y.1.2.2], .int .i64 y.2, .int .i64 er]) (by simp [results, Tryd.results14, go_sem, d0, d1, d2]) rfl ⟨rfl, bz⟩

set_option maxHeartbeats 1000000 in
theorem ptick_any :
    Calls Tryd.prog 15 #[.agg #[.int .i64 p, .int .i64 j, .int .i64 t, .int .i64 h, .int .i64 g, .int .i64 q, .int .i64 s, .int .i64 cp, .slice A n k], .agg #[.int .i64 du, .int .i64 un, .bool wt], .int .i64 nw, .int .i64 dr] w (GivesP (pres (askE (okC p j t h g q s cp l) (okT du && okT un) (okN nw)) (tckF p j q s du un wt nw dr)) (askE (okC p j t h g q s cp l) (okT du && okT un) (okN nw)) w) := by
  have B0 : Below w.heap.size w (((w.alloc (.cells #[.int .i64 p, .int .i64 j, .int .i64 t, .int .i64 h, .int .i64 g, .int .i64 q, .int .i64 s, .int .i64 cp, .slice A n k] 24)).alloc (.cells #[.int .i64 du, .int .i64 un, .bool wt] 28)).alloc (.cells #[.int .i64 0, .int .i64 0, .bool false] 28)) := balloc (balloc (balloc (Below.refl _ w) _) _) _
  have HA := Lib.hid (ask_any 31 (tckF p j q s du un wt nw dr) p j t h g q s cp A n k B l hn du un nw dr wt (((w.alloc (.cells #[.int .i64 p, .int .i64 j, .int .i64 t, .int .i64 h, .int .i64 g, .int .i64 q, .int .i64 s, .int .i64 cp, .slice A n k] 24)).alloc (.cells #[.int .i64 du, .int .i64 un, .bool wt] 28)).alloc (.cells #[.int .i64 0, .int .i64 0, .bool false] 28)) (hr.below (B0.mono hB)) (by have := B0.size; omega) hnk hk hl (hw.below B0) enterT
    (fun W hc hN hb hR hBW hC => tick_any _ p j t h g q s cp A n k B l hn du un nw dr wt W hb hR hBW hnk hk hl hC hc hN))
  generalize askE (okC p j t h g q s cp l) (okT du && okT un) (okN nw) = er at *
  generalize hy : pres er (tckF p j q s du un wt nw dr) = y
  rw [askR_eq er _ y hy] at HA
  clear hy hr hl hw
  have HB0 := Lib.hid B0
  clear B0
  go_enter Tryd.func15, Tryd.ntmps15
  go_wp2_with fail
  refine HA.out.mono ?_
  rintro e w1 ⟨rfl, b1⟩
  have x2 := Blk.new ((w.alloc (.cells #[.int .i64 p, .int .i64 j, .int .i64 t, .int .i64 h, .int .i64 g, .int .i64 q, .int .i64 s, .int .i64 cp, .slice A n k] 24)).alloc (.cells #[.int .i64 du, .int .i64 un, .bool wt] 28)) 28 #[.int .i64 0, .int .i64 0, .bool false]
  rw [World.size_alloc, World.size_alloc] at x2
  have y2 := x2.below b1 x2.lt
  have BB := bnext HB0.out b1
  clear x2 b1
  have d0 := (y2).cell 0
  have d1 := (y2).cell 1
  have d2 := (y2).cell 2
  simp only [List.getElem?_toArray, List.getElem?_cons_zero, List.getElem?_cons_succ] at d0 d1 d2
  have f0 := y2.frozen 0
  have f1 := y2.frozen 1
  have f2 := y2.frozen 2
  go_wp2_with fail
  have z := ((y2.set 0 (.int .i64 y.1.1)).set 1 (.int .i64 y.1.2.1)).set 2 (.bool y.1.2.2)
  simp only [List.setIfInBounds_toArray, List.set_cons_zero, List.set_cons_succ] at z
  have bz := ((BB.setCell (p := ⟨w.heap.size + 1 + 1, 0, none⟩) (by show w.heap.size ≤ w.heap.size + 1 + 1; omega) (.int .i64 y.1.1)).setCell (p := ⟨w.heap.size + 1 + 1, 1, none⟩) (by show w.heap.size ≤ w.heap.size + 1 + 1; omega) (.int .i64 y.1.2.1)).setCell (p := ⟨w.heap.size + 1 + 1, 2, none⟩) (by show w.heap.size ≤ w.heap.size + 1 + 1; omega) (.bool y.1.2.2)
  clear d0 d1 d2
  clear y2 BB HB0 HA f0 f1 f2
  have d0 := (z).cell 0
  have d1 := (z).cell 1
  have d2 := (z).cell 2
  simp only [List.getElem?_toArray, List.getElem?_cons_zero, List.getElem?_cons_succ] at d0 d1 d2
  clear z
  generalize (((w1.setCell ⟨w.heap.size + 1 + 1, 0, none⟩ (.int .i64 y.1.1)).setCell ⟨w.heap.size + 1 + 1, 1, none⟩ (.int .i64 y.1.2.1)).setCell ⟨w.heap.size + 1 + 1, 2, none⟩ (.bool y.1.2.2)) = wz at *
  exact bodyPost_ret (v := .tuple #[.agg #[.int .i64 y.1.1, .int .i64 y.1.2.1, .bool y.1.2.2], .int .i64 y.2, .int .i64 er]) (by simp [results, Tryd.results15, go_sem, d0, d1, d2]) rfl ⟨rfl, bz⟩
end

/-- the next time at which something is told -/
def nxtF (du un : Int) (wt : Bool) : Int := if okT du && okT un then (if wt then min du un else du) else 0
set_option maxHeartbeats 400000 in
theorem pnext_any (du un : Int) (wt : Bool) (w : World) :
    Calls Tryd.prog 16 #[.agg #[.int .i64 du, .int .i64 un, .bool wt]] w fun e w' => e = .returned (.int .i64 (nxtF du un wt)) ∧ Below w.heap.size w w' := by
  have HM := Lib.hid (fun W => pmayBe_any du un wt W)
  have x0 := Blk.new w 28 #[.int .i64 du, .int .i64 un, .bool wt]
  have HX := Lib.hid (show nxtF du un wt = if okT du && okT un then (if wt then min du un else du) else 0 from rfl)
  generalize nxtF du un wt = r at *
  generalize (okT du && okT un) = ok at *
  cases ok
  · rw [if_neg (by simp)] at HX
    go_enter Tryd.func16, Tryd.ntmps16
    go_wp2_with fail
    refine (HM.out _).mono ?_
    rintro e w1 ⟨rfl, b1⟩
    go_wp2_with fail
    go_ret
    exact ⟨ret_num HX.out.symm, bnext (balloc (Below.refl _ _) _) b1⟩
  · rw [if_pos rfl] at HX
    cases wt
    · rw [if_neg (by simp)] at HX
      go_enter Tryd.func16, Tryd.ntmps16
      go_wp2_with fail
      refine (HM.out _).mono ?_
      rintro e w1 ⟨rfl, b1⟩
      have y0 := x0.below b1 x0.lt
      have d0 := (y0).cell 0
      have d1 := (y0).cell 1
      have d2 := (y0).cell 2
      simp only [List.getElem?_toArray, List.getElem?_cons_zero, List.getElem?_cons_succ] at d0 d1 d2
      clear x0 y0
      go_wp2_with fail
      go_ret
      exact ⟨ret_num HX.out.symm, bnext (balloc (Below.refl _ _) _) b1⟩
    · rw [if_pos rfl] at HX
      go_enter Tryd.func16, Tryd.ntmps16
      go_wp2_with fail
      refine (HM.out _).mono ?_
      rintro e w1 ⟨rfl, b1⟩
      have y0 := x0.below b1 x0.lt
      have d0 := (y0).cell 0
      have d1 := (y0).cell 1
      have d2 := (y0).cell 2
      simp only [List.getElem?_toArray, List.getElem?_cons_zero, List.getElem?_cons_succ] at d0 d1 d2
      clear x0 y0
      go_wp2_with fail
      all_goals
        go_ret
        exact ⟨ret_num (by first | (rw [HX.out]; done) | (rw [HX.out]; omega)), bnext (balloc (Below.refl _ _) _) b1⟩
end Go.Proofs.YtlgkjboamfgbeaaDoor
