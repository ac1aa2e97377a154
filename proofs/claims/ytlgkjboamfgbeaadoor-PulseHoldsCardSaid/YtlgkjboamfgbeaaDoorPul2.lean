/- pulse: check, behind. -/
import Derived.Test.YtlgkjboamfgbeaaDoorPul1
namespace Go.Proofs.YtlgkjboamfgbeaaDoor
set_option linter.unusedVariables false
set_option linter.unusedSimpArgs false
open Go.RowKit
set_option maxRecDepth 100000

/-- a function of the three, as a value -/
def askV (f b0 : Nat) : Value := .func (.func f) #[] #[.pointer (some ⟨b0, 0, none⟩)]

set_option maxHeartbeats 2000000 in
theorem pcheck_any (b : Nat) (p j t h g q s cp : Int) (A : Option Addr) (n k B : Nat) (l : List (Nat × Int)) (hn : l.length = n) (du un nw dr : Int) (wt : Bool) (w : World) (hb : Blk w b 58 #[.int .i64 du, .int .i64 un, .bool wt, .int .i64 p, .int .i64 j, .int .i64 t, .int .i64 h, .int .i64 g, .int .i64 q, .int .i64 s, .int .i64 cp, .slice A n k, .int .i64 nw, .int .i64 dr])
    (hr : Rd w B A (plC l)) (hB : B ≤ w.heap.size) (hnk : n ≤ k) (hk : k ≤ 9223372036854775807) (hl : ∀ x ∈ l, x.1 < 4294967296) (hw : CapsAt w) :
    Calls Tryd.prog 24 #[.pointer (some ⟨b, 0, none⟩)] w fun e w' => e = fltE (askE (okC p j t h g q s cp l) (okT du && okT un) (okN nw)) ∧ Below w.heap.size w w' := by
  have i0 : ∀ (w : World) (x0 x1 x2 : Value), (Instr.index 78 (.agg #[x0, x1, x2]) (.int .i64 0)).run Tryd.prog w = .ok x0 w := fun _ _ _ _ => by kernel_rfl
  have i1 : ∀ (w : World) (x0 x1 x2 : Value), (Instr.index 78 (.agg #[x0, x1, x2]) (.int .i64 1)).run Tryd.prog w = .ok x1 w := fun _ _ _ _ => by kernel_rfl
  have i2 : ∀ (w : World) (x0 x1 x2 : Value), (Instr.index 78 (.agg #[x0, x1, x2]) (.int .i64 2)).run Tryd.prog w = .ok x2 w := fun _ _ _ _ => by kernel_rfl
  have hmf : ∀ (fn : Fn) (first cap : Array Value) (w : World), (Instr.makeFunc fn first cap).run Tryd.prog w = .ok (.func fn first cap) w := fun _ _ _ _ => rfl
  have B0 : Below w.heap.size w (w.alloc (.cells #[.pointer (some ⟨b, 0, none⟩)] 66)) := balloc (Below.refl _ _) _
  have x0 := Blk.new w 66 #[.pointer (some ⟨b, 0, none⟩)]
  have HB := Lib.hid (fun W (hW : Below w.heap.size w W) => hb.below hW hb.lt)
  have H1 := Lib.hid (fun W (hW : Below w.heap.size w W) (h0 : Blk W w.heap.size 66 #[.pointer (some ⟨b, 0, none⟩)]) => chk1_any b w.heap.size p j t h g q s cp A n k B l hn du un nw dr wt W h0 (hb.below hW hb.lt) (hr.below (hW.mono hB)) (by have := hW.size; omega) hnk hk hl (hw.below hW))
  have H2 := Lib.hid (fun W (hW : Below w.heap.size w W) (h0 : Blk W w.heap.size 66 #[.pointer (some ⟨b, 0, none⟩)]) => chk2_any b w.heap.size p j t h g q s cp A n k du un nw dr wt W h0 (hb.below hW hb.lt))
  have H3 := Lib.hid (fun W (hW : Below w.heap.size w W) (h0 : Blk W w.heap.size 66 #[.pointer (some ⟨b, 0, none⟩)]) => chk3_any b w.heap.size p j t h g q s cp A n k du un nw dr wt W h0 (hb.below hW hb.lt))
  clear hb hr hl hw
  generalize okC p j t h g q s cp l = oc at *
  generalize (okT du && okT un) = op at *
  generalize okN nw = on at *
  cases oc
  · rw [show errC false = 2 from rfl] at H1
    go_enter Tryd.func24, Tryd.ntmps24
    go_wp2_with fail
    refine wp_loop_rounds 4 ?_
    rw [rounds_succ]
    go_wp2_with fail
    refine (H1.out _ (balloc B0 _) (x0.alloc _)).mono ?_
    rintro e w1 ⟨rfl, b1⟩
    have X1 := Lib.hid ((x0.alloc (.cells #[askV 40 w.heap.size, askV 42 w.heap.size, askV 44 w.heap.size] 78)).below b1 (by simp; omega))
    have B1 := Lib.hid (bnext (balloc B0 (.cells #[askV 40 w.heap.size, askV 42 w.heap.size, askV 44 w.heap.size] 78)) b1)
    clear b1
    go_wp2_with fail
    exact ⟨rfl, rfl, B1.out⟩
  cases op
  · rw [show errC true = 0 from rfl] at H1
    rw [show unlV false 2 = 2 from rfl] at H2
    go_enter Tryd.func24, Tryd.ntmps24
    go_wp2_with fail
    refine wp_loop_rounds 4 ?_
    rw [rounds_succ]
    go_wp2_with fail
    refine (H1.out _ (balloc B0 _) (x0.alloc _)).mono ?_
    rintro e w1 ⟨rfl, b1⟩
    have X1 := Lib.hid ((x0.alloc (.cells #[askV 40 w.heap.size, askV 42 w.heap.size, askV 44 w.heap.size] 78)).below b1 (by simp; omega))
    have B1 := Lib.hid (bnext (balloc B0 (.cells #[askV 40 w.heap.size, askV 42 w.heap.size, askV 44 w.heap.size] 78)) b1)
    clear b1
    go_wp2_with fail
    rw [rounds_succ]
    go_wp2_with fail
    refine (H2.out _ B1.out X1.out).mono ?_
    rintro e w2 ⟨rfl, b2⟩
    have X2 := Lib.hid (X1.out.below b2 X1.out.lt)
    have B2 := Lib.hid (bnext B1.out b2)
    clear b2
    go_wp2_with fail
    exact ⟨rfl, rfl, B2.out⟩
  cases on
  · rw [show errC true = 0 from rfl] at H1
    rw [show unlV true 2 = 0 from rfl] at H2
    rw [show unlV false 170 = 170 from rfl] at H3
    go_enter Tryd.func24, Tryd.ntmps24
    go_wp2_with fail
    refine wp_loop_rounds 4 ?_
    rw [rounds_succ]
    go_wp2_with fail
    refine (H1.out _ (balloc B0 _) (x0.alloc _)).mono ?_
    rintro e w1 ⟨rfl, b1⟩
    have X1 := Lib.hid ((x0.alloc (.cells #[askV 40 w.heap.size, askV 42 w.heap.size, askV 44 w.heap.size] 78)).below b1 (by simp; omega))
    have B1 := Lib.hid (bnext (balloc B0 (.cells #[askV 40 w.heap.size, askV 42 w.heap.size, askV 44 w.heap.size] 78)) b1)
    clear b1
    go_wp2_with fail
    rw [rounds_succ]
    go_wp2_with fail
    refine (H2.out _ B1.out X1.out).mono ?_
    rintro e w2 ⟨rfl, b2⟩
    have X2 := Lib.hid (X1.out.below b2 X1.out.lt)
    have B2 := Lib.hid (bnext B1.out b2)
    clear b2
    go_wp2_with fail
    rw [rounds_succ]
    go_wp2_with fail
    refine (H3.out _ B2.out X2.out).mono ?_
    rintro e w3 ⟨rfl, b3⟩
    have B3 := Lib.hid (bnext B2.out b3)
    clear b3
    go_wp2_with fail
    exact ⟨rfl, rfl, B3.out⟩
  · rw [show errC true = 0 from rfl] at H1
    rw [show unlV true 2 = 0 from rfl] at H2
    rw [show unlV true 170 = 0 from rfl] at H3
    go_enter Tryd.func24, Tryd.ntmps24
    go_wp2_with fail
    refine wp_loop_rounds 4 ?_
    rw [rounds_succ]
    go_wp2_with fail
    refine (H1.out _ (balloc B0 _) (x0.alloc _)).mono ?_
    rintro e w1 ⟨rfl, b1⟩
    have X1 := Lib.hid ((x0.alloc (.cells #[askV 40 w.heap.size, askV 42 w.heap.size, askV 44 w.heap.size] 78)).below b1 (by simp; omega))
    have B1 := Lib.hid (bnext (balloc B0 (.cells #[askV 40 w.heap.size, askV 42 w.heap.size, askV 44 w.heap.size] 78)) b1)
    clear b1
    go_wp2_with fail
    rw [rounds_succ]
    go_wp2_with fail
    refine (H2.out _ B1.out X1.out).mono ?_
    rintro e w2 ⟨rfl, b2⟩
    have X2 := Lib.hid (X1.out.below b2 X1.out.lt)
    have B2 := Lib.hid (bnext B1.out b2)
    clear b2
    go_wp2_with fail
    rw [rounds_succ]
    go_wp2_with fail
    refine (H3.out _ B2.out X2.out).mono ?_
    rintro e w3 ⟨rfl, b3⟩
    have B3 := Lib.hid (bnext B2.out b3)
    clear b3
    go_wp2_with fail
    rw [rounds_succ]
    go_wp2_with fail
    go_end0
    exact ⟨rfl, B3.out⟩
end Go.Proofs.YtlgkjboamfgbeaaDoor
