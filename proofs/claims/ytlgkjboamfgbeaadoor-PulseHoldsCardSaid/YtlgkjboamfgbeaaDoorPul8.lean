/- pulse: the document's answers (waywardenref15). -/
import Derived.Test.YtlgkjboamfgbeaaDoorPul7
namespace Go.Proofs.YtlgkjboamfgbeaaDoor
set_option linter.unusedVariables false
set_option linter.unusedSimpArgs false
open Go.RowKit
set_option maxRecDepth 100000

theorem rtime_any (x : Int) (w : World) :
    Calls Tryd.prog 50 #[.int .i64 x] w fun e w' => e = .returned (.bool (okT x)) ∧ w = w' := by
  by_cases h0 : 0 ≤ x
  · by_cases h1 : x ≤ 4611686018427387904
    · have hb : okT x = true := decide_eq_true ⟨h0, h1⟩
      rw [hb]
      have HB := Lib.hid hb
      clear hb
      go_enter Tryd.func50, Tryd.ntmps50
      go_wp2
      go_ret
      exact ⟨rfl, rfl⟩
    · have hb : okT x = false := decide_eq_false (by omega)
      rw [hb]
      have HB := Lib.hid hb
      have hd : decide (x ≤ 4611686018427387904) = false := by simpa using h1
      clear hb
      go_enter Tryd.func50, Tryd.ntmps50
      go_wp2
      go_ret
      exact ⟨rfl, rfl⟩
  · have hb : okT x = false := decide_eq_false (by omega)
    rw [hb]
    have HB := Lib.hid hb
    have hd : decide (0 ≤ x) = false := by simpa using h0
    clear hb
    go_enter Tryd.func50, Tryd.ntmps50
    go_wp2
    go_ret
    exact ⟨rfl, rfl⟩

theorem rright15_any (du un : Int) (wt : Bool) (w : World) :
    Calls Tryd.prog 27 #[.agg #[.int .i64 du, .int .i64 un, .bool wt]] w fun e w' => e = .returned (.bool (okT du && okT un)) ∧ Below w.heap.size w w' := by
  have H1 := Lib.hid (fun (w : World) => rtime_any du w)
  have H2 := Lib.hid (fun (w : World) => rtime_any un w)
  generalize okT du = a at *
  generalize okT un = b at *
  cases a <;> cases b
  all_goals
    go_enter Tryd.func27, Tryd.ntmps27
    go_wp2_with fail
    refine (H1.out _).mono ?_
    rintro e w' ⟨rfl, rfl⟩
    go_wp2_with ((with_reducible refine (H2.out _).mono ?_); rintro e w' ⟨rfl, rfl⟩)
    go_ret
    exact ⟨rfl, balloc (Below.refl _ _) _⟩

theorem okN_cases (x : Int) : (okN x = true ∧ decide (x < 0) = false ∧ decide (4611686018425387904 < x) = false) ∨ (okN x = false ∧ decide (x < 0) = true) ∨ (okN x = false ∧ decide (x < 0) = false ∧ decide (4611686018425387904 < x) = true) := by
  unfold okN inB
  simp only [decide_eq_true_eq, decide_eq_false_iff_not]
  omega

set_option maxHeartbeats 1000000 in
theorem asked_any (p j t h g q s cp : Int) (A : Option Addr) (n k B : Nat) (l : List (Nat × Int)) (hn : l.length = n) (du un nw : Int) (wt : Bool) (w : World) (hr : Rd w B A (plC l)) (hB : B ≤ w.heap.size) (hnk : n ≤ k) (hk : k ≤ 9223372036854775807) (hl : ∀ x ∈ l, x.1 < 4294967296) :
    Calls Tryd.prog 11 #[.agg #[.int .i64 p, .int .i64 j, .int .i64 t, .int .i64 h, .int .i64 g, .int .i64 q, .int .i64 s, .int .i64 cp, .slice A n k], .agg #[.int .i64 du, .int .i64 un, .bool wt], .int .i64 nw] w fun e w' => e = .returned (.int .i64 (askE (okC p j t h g q s cp l) (okT du && okT un) (okN nw))) ∧ Below w.heap.size w w' := by
  have B0 : Below w.heap.size w ((w.alloc (.cells #[.int .i64 p, .int .i64 j, .int .i64 t, .int .i64 h, .int .i64 g, .int .i64 q, .int .i64 s, .int .i64 cp, .slice A n k] 24)).alloc (.cells #[.int .i64 du, .int .i64 un, .bool wt] 28)) := balloc (balloc (Below.refl _ w) _) _
  have x1 := Blk.new (w.alloc (.cells #[.int .i64 p, .int .i64 j, .int .i64 t, .int .i64 h, .int .i64 g, .int .i64 q, .int .i64 s, .int .i64 cp, .slice A n k] 24)) 28 #[.int .i64 du, .int .i64 un, .bool wt]
  rw [World.size_alloc] at x1
  have HR := Lib.hid (right8_any p j t h g q s cp A n k B l hn _ (hr.below (B0.mono hB)) (by have := B0.size; omega) hnk hk hl)
  have HM := Lib.hid (fun W => rright15_any du un wt W)
  have X1 := Lib.hid x1
  have HB0 := Lib.hid B0
  clear hr hl x1 B0
  have hN := okN_cases nw
  generalize okC p j t h g q s cp l = oc at *
  generalize (okT du && okT un) = op at *
  generalize okN nw = on at *
  cases oc
  · clear hN
    go_enter Tryd.func11, Tryd.ntmps11
    go_wp2_with fail
    refine HR.out.mono ?_
    rintro e w1 ⟨rfl, b1⟩
    go_wp2_with fail
    go_ret
    exact ⟨rfl, bnext HB0.out b1⟩
  · cases op
    · clear hN
      go_enter Tryd.func11, Tryd.ntmps11
      go_wp2_with fail
      refine HR.out.mono ?_
      rintro e w1 ⟨rfl, b1⟩
      have y1 := X1.out.below b1 X1.out.lt
      have d0 := (y1).cell 0
      have d1 := (y1).cell 1
      have d2 := (y1).cell 2
      simp only [List.getElem?_toArray, List.getElem?_cons_zero, List.getElem?_cons_succ] at d0 d1 d2
      go_wp2_with fail
      refine (HM.out _).mono ?_
      rintro e w2 ⟨rfl, b2⟩
      go_wp2_with fail
      go_ret
      exact ⟨rfl, bnext (bnext HB0.out b1) b2⟩
    · rcases hN with ⟨rfl, n1, n2⟩ | ⟨rfl, n1⟩ | ⟨rfl, n1, n2⟩
      all_goals
        go_enter Tryd.func11, Tryd.ntmps11
        go_wp2_with fail
        refine HR.out.mono ?_
        rintro e w1 ⟨rfl, b1⟩
        have y1 := X1.out.below b1 X1.out.lt
        have d0 := (y1).cell 0
        have d1 := (y1).cell 1
        have d2 := (y1).cell 2
        simp only [List.getElem?_toArray, List.getElem?_cons_zero, List.getElem?_cons_succ] at d0 d1 d2
        go_wp2_with fail
        refine (HM.out _).mono ?_
        rintro e w2 ⟨rfl, b2⟩
        go_wp2_with fail
        go_ret
        exact ⟨rfl, bnext (bnext HB0.out b1) b2⟩
end Go.Proofs.YtlgkjboamfgbeaaDoor
