/- pulse: what is asked ahead (check), and a time behind a wait. -/
import Derived.Test.YtlgkjboamfgbeaaDoorCfgA
namespace Go.Proofs.YtlgkjboamfgbeaaDoor
set_option linter.unusedVariables false
set_option linter.unusedSimpArgs false
open Go.RowKit
set_option maxRecDepth 100000

/-- from 0 to the greatest one -/
def inB (n m : Int) : Bool := decide (0 ≤ n ∧ n ≤ m)
theorem upTo_any (n m : Int) (w : World) :
    Calls Tryd.prog 45 #[.int .i64 n, .int .i64 m] w fun e w' => e = .returned (.bool (inB n m)) ∧ w = w' := by
  by_cases h0 : 0 ≤ n
  · by_cases h1 : n ≤ m
    · have hb : inB n m = true := decide_eq_true ⟨h0, h1⟩
      rw [hb]
      have HB := Lib.hid hb
      clear hb
      go_enter Tryd.func45, Tryd.ntmps45
      go_wp2
      go_ret
      exact ⟨rfl, rfl⟩
    · have hb : inB n m = false := decide_eq_false (by omega)
      rw [hb]
      have HB := Lib.hid hb
      have hd : decide (n ≤ m) = false := by simpa using h1
      clear hb
      go_enter Tryd.func45, Tryd.ntmps45
      go_wp2
      go_ret
      exact ⟨rfl, rfl⟩
  · have hb : inB n m = false := decide_eq_false (by omega)
    rw [hb]
    have HB := Lib.hid hb
    have hd : decide (0 ≤ n) = false := by simpa using h0
    clear hb
    go_enter Tryd.func45, Tryd.ntmps45
    go_wp2
    go_ret
    exact ⟨rfl, rfl⟩

/-- may a time be? -/
def okT (x : Int) : Bool := inB x 4611686018427387904
theorem pmayBe_any (du un : Int) (wt : Bool) (w : World) :
    Calls Tryd.prog 32 #[.agg #[.int .i64 du, .int .i64 un, .bool wt]] w fun e w' => e = .returned (.bool (okT du && okT un)) ∧ Below w.heap.size w w' := by
  have HU := Lib.hid (fun x (w : World) => show Calls Tryd.prog 45 #[.int .i64 x, .int .i64 4611686018427387904] w fun e w' => e = .returned (.bool (okT x)) ∧ w = w' from upTo_any x _ w)
  generalize hdu : okT du = a
  generalize hun : okT un = b
  have H1 := Lib.hid (fun (w : World) => HU.out du w)
  have H2 := Lib.hid (fun (w : World) => HU.out un w)
  rw [hdu] at H1
  rw [hun] at H2
  clear HU hdu hun
  cases a <;> cases b
  all_goals
    go_enter Tryd.func32, Tryd.ntmps32
    go_wp2_with fail
    refine (H1.out _).mono ?_
    rintro e w' ⟨rfl, rfl⟩
    go_wp2_with ((with_reducible refine (H2.out _).mono ?_); rintro e w' ⟨rfl, rfl⟩)
    go_ret
    exact ⟨rfl, balloc (Below.refl _ _) _⟩

/-- an error of what is not so -/
def unlV (so : Bool) (x : Int) : Int := if so then 0 else x
theorem unless_any (so : Bool) (x : Int) (w : World) :
    Calls Tryd.prog 43 #[.bool so, .int .i64 x] w fun e w' => e = .returned (.int .i64 (unlV so x)) ∧ w = w' := by
  cases so
  all_goals
    go_enter Tryd.func43, Tryd.ntmps43
    go_wp2
    go_ret
    exact ⟨rfl, rfl⟩

/-- may a time be asked? -/
def okN (x : Int) : Bool := inB x 4611686018425387904
/-- the error of what is asked -/
def askE (oc op on : Bool) : Int := if oc && op then (if on then 0 else 170) else 2
def fltE (x : Int) : Ending := if x = 0 then .returned (.tuple #[]) else .panicked [{ v := .iface 55 (.agg #[.int .i64 x]), recovered := false }]
theorem fltE_0 : fltE 0 = .returned (.tuple #[]) := rfl
theorem fltE_2 : fltE 2 = .panicked [{ v := .iface 55 (.agg #[.int .i64 2]), recovered := false }] := rfl
theorem fltE_170 : fltE 170 = .panicked [{ v := .iface 55 (.agg #[.int .i64 170]), recovered := false }] := rfl

set_option maxHeartbeats 1000000 in
theorem chk1_any (b b0 : Nat) (p j t h g q s cp : Int) (A : Option Addr) (n k B : Nat) (l : List (Nat × Int)) (hn : l.length = n) (du un nw dr : Int) (wt : Bool) (w : World) (hb0 : Blk w b0 66 #[.pointer (some ⟨b, 0, none⟩)]) (hb : Blk w b 58 #[.int .i64 du, .int .i64 un, .bool wt, .int .i64 p, .int .i64 j, .int .i64 t, .int .i64 h, .int .i64 g, .int .i64 q, .int .i64 s, .int .i64 cp, .slice A n k, .int .i64 nw, .int .i64 dr])
    (hr : Rd w B A (plC l)) (hB : B ≤ w.heap.size) (hnk : n ≤ k) (hk : k ≤ 9223372036854775807) (hl : ∀ x ∈ l, x.1 < 4294967296) (hw : CapsAt w) :
    Calls Tryd.prog 40 #[.pointer (some ⟨b0, 0, none⟩)] w fun e w' => e = .returned (.int .i64 (errC (okC p j t h g q s cp l))) ∧ Below w.heap.size w w' := by
  have HC := Lib.hid (ccheck_any p j t h g q s cp A n k B l hn w hr hB hnk hk hl hw)
  have c0 := (hb).cell 0
  have c1 := (hb).cell 1
  have c2 := (hb).cell 2
  have c3 := (hb).cell 3
  have c4 := (hb).cell 4
  have c5 := (hb).cell 5
  have c6 := (hb).cell 6
  have c7 := (hb).cell 7
  have c8 := (hb).cell 8
  have c9 := (hb).cell 9
  have c10 := (hb).cell 10
  have c11 := (hb).cell 11
  have c12 := (hb).cell 12
  have c13 := (hb).cell 13
  simp only [List.getElem?_toArray, List.getElem?_cons_zero, List.getElem?_cons_succ] at c0 c1 c2 c3 c4 c5 c6 c7 c8 c9 c10 c11 c12 c13
  have d0 := (hb0).cell 0
  simp only [List.getElem?_toArray, List.getElem?_cons_zero, List.getElem?_cons_succ] at d0
  clear hr hl hw hb hb0
  generalize errC (okC p j t h g q s cp l) = er at *
  go_enter Tryd.func40, Tryd.ntmps40
  go_wp2_with fail
  refine HC.out.mono ?_
  rintro e w' ⟨rfl, hb⟩
  go_wp2_with fail
  go_ret
  exact ⟨rfl, hb⟩

set_option maxHeartbeats 1000000 in
theorem chk2_any (b b0 : Nat) (p j t h g q s cp : Int) (A : Option Addr) (n k : Nat) (du un nw dr : Int) (wt : Bool) (w : World) (hb0 : Blk w b0 66 #[.pointer (some ⟨b, 0, none⟩)]) (hb : Blk w b 58 #[.int .i64 du, .int .i64 un, .bool wt, .int .i64 p, .int .i64 j, .int .i64 t, .int .i64 h, .int .i64 g, .int .i64 q, .int .i64 s, .int .i64 cp, .slice A n k, .int .i64 nw, .int .i64 dr]) :
    Calls Tryd.prog 42 #[.pointer (some ⟨b0, 0, none⟩)] w fun e w' => e = .returned (.int .i64 (unlV (okT du && okT un) 2)) ∧ Below w.heap.size w w' := by
  have HC := Lib.hid (pmayBe_any du un wt w)
  have c0 := (hb).cell 0
  have c1 := (hb).cell 1
  have c2 := (hb).cell 2
  have c3 := (hb).cell 3
  have c4 := (hb).cell 4
  have c5 := (hb).cell 5
  have c6 := (hb).cell 6
  have c7 := (hb).cell 7
  have c8 := (hb).cell 8
  have c9 := (hb).cell 9
  have c10 := (hb).cell 10
  have c11 := (hb).cell 11
  have c12 := (hb).cell 12
  have c13 := (hb).cell 13
  simp only [List.getElem?_toArray, List.getElem?_cons_zero, List.getElem?_cons_succ] at c0 c1 c2 c3 c4 c5 c6 c7 c8 c9 c10 c11 c12 c13
  have d0 := (hb0).cell 0
  simp only [List.getElem?_toArray, List.getElem?_cons_zero, List.getElem?_cons_succ] at d0
  clear hb hb0
  generalize (okT du && okT un) = er at *
  go_enter Tryd.func42, Tryd.ntmps42
  go_wp2_with fail
  refine HC.out.mono ?_
  rintro e w' ⟨rfl, hb⟩
  go_wp2_with fail
  refine (unless_any _ _ _).mono ?_
  rintro e w'' ⟨rfl, rfl⟩
  go_wp2_with fail
  go_ret
  exact ⟨rfl, hb⟩

set_option maxHeartbeats 1000000 in
theorem chk3_any (b b0 : Nat) (p j t h g q s cp : Int) (A : Option Addr) (n k : Nat) (du un nw dr : Int) (wt : Bool) (w : World) (hb0 : Blk w b0 66 #[.pointer (some ⟨b, 0, none⟩)]) (hb : Blk w b 58 #[.int .i64 du, .int .i64 un, .bool wt, .int .i64 p, .int .i64 j, .int .i64 t, .int .i64 h, .int .i64 g, .int .i64 q, .int .i64 s, .int .i64 cp, .slice A n k, .int .i64 nw, .int .i64 dr]) :
    Calls Tryd.prog 44 #[.pointer (some ⟨b0, 0, none⟩)] w fun e w' => e = .returned (.int .i64 (unlV (okN nw) 170)) ∧ Below w.heap.size w w' := by
  have HC := Lib.hid (show Calls Tryd.prog 45 #[.int .i64 nw, .int .i64 4611686018425387904] w fun e w' => e = .returned (.bool (okN nw)) ∧ w = w' from upTo_any nw _ w)
  have c0 := (hb).cell 0
  have c1 := (hb).cell 1
  have c2 := (hb).cell 2
  have c3 := (hb).cell 3
  have c4 := (hb).cell 4
  have c5 := (hb).cell 5
  have c6 := (hb).cell 6
  have c7 := (hb).cell 7
  have c8 := (hb).cell 8
  have c9 := (hb).cell 9
  have c10 := (hb).cell 10
  have c11 := (hb).cell 11
  have c12 := (hb).cell 12
  have c13 := (hb).cell 13
  simp only [List.getElem?_toArray, List.getElem?_cons_zero, List.getElem?_cons_succ] at c0 c1 c2 c3 c4 c5 c6 c7 c8 c9 c10 c11 c12 c13
  have d0 := (hb0).cell 0
  simp only [List.getElem?_toArray, List.getElem?_cons_zero, List.getElem?_cons_succ] at d0
  clear hb hb0
  generalize okN nw = er at *
  go_enter Tryd.func44, Tryd.ntmps44
  go_wp2_with fail
  refine HC.out.mono ?_
  rintro e w' ⟨rfl, rfl⟩
  go_wp2_with fail
  refine (unless_any _ _ _).mono ?_
  rintro e w'' ⟨rfl, rfl⟩
  go_wp2_with fail
  go_ret
  exact ⟨rfl, Below.refl _ _⟩
end Go.Proofs.YtlgkjboamfgbeaaDoor
