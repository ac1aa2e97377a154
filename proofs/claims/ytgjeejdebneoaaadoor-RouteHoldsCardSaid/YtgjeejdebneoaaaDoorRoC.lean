/- route: the document's asked, Asked, Ask, Told, Own, Expire; route.Own, route.Told. -/
import Derived.Test.YtgjeejdebneoaaaDoorRo9
import Derived.Test.YtgjeejdebneoaaaDoorRo7
import Derived.Deep.CutRange
namespace Go.Proofs.YtgjeejdebneoaaaDoor
set_option linter.unusedVariables false
set_option linter.unusedSimpArgs false
open Go.RowKit
set_option maxRecDepth 100000

set_option maxHeartbeats 2000000 in
theorem rasked_any (p j t h g q s cp : Int) (A : Option Addr) (n k B : Nat) (l : List (Nat × Int)) (hn : l.length = n) (a : Nat) (m st me lo fa : Int) (nx : Nat) (du : Int) (ch : Bool) (now : Int) (w : World) (hr : Rd w B A (plC l)) (hB : B ≤ w.heap.size) (hnk : n ≤ k) (hk : k ≤ 9223372036854775807) (hl : ∀ x ∈ l, x.1 < 4294967296) (ha : a < 4294967296) (hx : nx < 4294967296) :
    Calls Tryd.prog 36 #[.agg #[.int .i64 p, .int .i64 j, .int .i64 t, .int .i64 h, .int .i64 g, .int .i64 q, .int .i64 s, .int .i64 cp, .slice A n k], .agg #[.int .u32 a, .int .i64 m, .int .i64 st, .int .i64 me, .int .i64 lo, .int .i64 fa, .int .u32 nx, .int .i64 du, .bool ch], .int .i64 now] w fun e w' => e = .returned (.int .i64 (askR (okC p j t h g q s cp l && okR a m st me lo fa nx du ch) now)) ∧ Below w.heap.size w w' := by
  have B0 : Below w.heap.size w ((w.alloc (.cells #[.int .i64 p, .int .i64 j, .int .i64 t, .int .i64 h, .int .i64 g, .int .i64 q, .int .i64 s, .int .i64 cp, .slice A n k] 24)).alloc (.cells #[.int .u32 a, .int .i64 m, .int .i64 st, .int .i64 me, .int .i64 lo, .int .i64 fa, .int .u32 nx, .int .i64 du, .bool ch] 31)) := balloc (balloc (Below.refl _ _) _) _
  have HC := Lib.hid (right8_any p j t h g q s cp A n k B l hn ((w.alloc (.cells #[.int .i64 p, .int .i64 j, .int .i64 t, .int .i64 h, .int .i64 g, .int .i64 q, .int .i64 s, .int .i64 cp, .slice A n k] 24)).alloc (.cells #[.int .u32 a, .int .i64 m, .int .i64 st, .int .i64 me, .int .i64 lo, .int .i64 fa, .int .u32 nx, .int .i64 du, .bool ch] 31)) (hr.below (B0.mono hB)) (by simp; omega) hnk hk hl)
  have HR := Lib.hid (fun W => rright_any a m st me lo fa nx du ch W ha hx)
  have HT := Lib.hid (fun W => rtime11_any now W)
  have y := Blk.new (w.alloc (.cells #[.int .i64 p, .int .i64 j, .int .i64 t, .int .i64 h, .int .i64 g, .int .i64 q, .int .i64 s, .int .i64 cp, .slice A n k] 24)) 31 #[.int .u32 a, .int .i64 m, .int .i64 st, .int .i64 me, .int .i64 lo, .int .i64 fa, .int .u32 nx, .int .i64 du, .bool ch]
  rw [World.size_alloc] at y
  have Y := Lib.hid (And.intro y B0)
  clear hr hl ha hx y B0
  unfold askR
  generalize okC p j t h g q s cp l = oc at *
  generalize okR a m st me lo fa nx du ch = or at *
  generalize inF 0 4611686018426387904 now = on at *
  cases oc
  · go_enter Tryd.func36, Tryd.ntmps36
    go_wp2_with fail
    refine HC.out.mono ?_
    rintro e w1 ⟨rfl, b1⟩
    go_wp2_with fail
    go_ret
    exact ⟨rfl, bnext Y.out.2 b1⟩
  cases or
  all_goals cases on
  all_goals
    go_enter Tryd.func36, Tryd.ntmps36
    go_wp2_with fail
    refine HC.out.mono ?_
    rintro e w1 ⟨rfl, b1⟩
    have y1 := Y.out.1.below b1 Y.out.1.lt
    have c0 := (y1).cell 0
    have c1 := (y1).cell 1
    have c2 := (y1).cell 2
    have c3 := (y1).cell 3
    have c4 := (y1).cell 4
    have c5 := (y1).cell 5
    have c6 := (y1).cell 6
    have c7 := (y1).cell 7
    have c8 := (y1).cell 8
    simp only [List.getElem?_toArray, List.getElem?_cons_zero, List.getElem?_cons_succ] at c0 c1 c2 c3 c4 c5 c6 c7 c8
    have BB := bnext Y.out.2 b1
    clear y1 b1
    go_wp2_with fail
    refine (HR.out _).mono ?_
    rintro e w2 ⟨rfl, b2⟩
    go_wp2_with (refine (HT.out _).mono ?_; rintro e w3 ⟨rfl, rfl⟩)
    go_ret
    exact ⟨rfl, bnext BB b2⟩

set_option maxHeartbeats 2000000 in
theorem rask_any (p j t h g q s cp : Int) (A : Option Addr) (n k B : Nat) (l : List (Nat × Int)) (hn : l.length = n) (a : Nat) (m st me lo fa : Int) (nx : Nat) (du : Int) (ch : Bool) (now : Int) (w : World) (hr : Rd w B A (plC l)) (hB : B ≤ w.heap.size) (hnk : n ≤ k) (hk : k ≤ 9223372036854775807) (hl : ∀ x ∈ l, x.1 < 4294967296) (ha : a < 4294967296) (hx : nx < 4294967296) :
    Calls Tryd.prog 25 #[.agg #[.int .i64 p, .int .i64 j, .int .i64 t, .int .i64 h, .int .i64 g, .int .i64 q, .int .i64 s, .int .i64 cp, .slice A n k], .agg #[.int .u32 a, .int .i64 m, .int .i64 st, .int .i64 me, .int .i64 lo, .int .i64 fa, .int .u32 nx, .int .i64 du, .bool ch], .int .i64 now] w fun e w' => e = .returned (.int .i64 (askR (okC p j t h g q s cp l && okR a m st me lo fa nx du ch) now)) ∧ Below w.heap.size w w' := by
  have B0 : Below w.heap.size w ((w.alloc (.cells #[.int .i64 p, .int .i64 j, .int .i64 t, .int .i64 h, .int .i64 g, .int .i64 q, .int .i64 s, .int .i64 cp, .slice A n k] 24)).alloc (.cells #[.int .u32 a, .int .i64 m, .int .i64 st, .int .i64 me, .int .i64 lo, .int .i64 fa, .int .u32 nx, .int .i64 du, .bool ch] 31)) := balloc (balloc (Below.refl _ _) _) _
  have HC := Lib.hid (rasked_any p j t h g q s cp A n k B l hn a m st me lo fa nx du ch now ((w.alloc (.cells #[.int .i64 p, .int .i64 j, .int .i64 t, .int .i64 h, .int .i64 g, .int .i64 q, .int .i64 s, .int .i64 cp, .slice A n k] 24)).alloc (.cells #[.int .u32 a, .int .i64 m, .int .i64 st, .int .i64 me, .int .i64 lo, .int .i64 fa, .int .u32 nx, .int .i64 du, .bool ch] 31)) (hr.below (B0.mono hB)) (by simp; omega) hnk hk hl ha hx)
  have Y := Lib.hid B0
  clear hr hl ha hx B0
  generalize askR (okC p j t h g q s cp l && okR a m st me lo fa nx du ch) now = er at *
  go_enter Tryd.func25, Tryd.ntmps25
  go_wp2_with fail
  refine HC.out.mono ?_
  rintro e w1 ⟨rfl, b1⟩
  go_wp2_with fail
  go_ret
  exact ⟨rfl, bnext Y.out b1⟩

set_option maxHeartbeats 4000000 in
theorem raskedH_any (p j t h g q s cp : Int) (A : Option Addr) (n k B : Nat) (l : List (Nat × Int)) (hn : l.length = n) (a : Nat) (m st me lo fa : Int) (nx : Nat) (du : Int) (ch : Bool) (hf : Int) (hx0 : Nat) (hm now : Int) (w : World) (hr : Rd w B A (plC l)) (hB : B ≤ w.heap.size) (hnk : n ≤ k) (hk : k ≤ 9223372036854775807) (hl : ∀ x ∈ l, x.1 < 4294967296) (ha : a < 4294967296) (hx : nx < 4294967296) (hy : hx0 < 4294967296) :
    Calls Tryd.prog 11 #[.agg #[.int .i64 p, .int .i64 j, .int .i64 t, .int .i64 h, .int .i64 g, .int .i64 q, .int .i64 s, .int .i64 cp, .slice A n k], .agg #[.int .u32 a, .int .i64 m, .int .i64 st, .int .i64 me, .int .i64 lo, .int .i64 fa, .int .u32 nx, .int .i64 du, .bool ch], .agg #[.int .i64 hf, .int .u32 hx0, .int .i64 hm], .int .i64 now] w fun e w' => e = .returned (.int .i64 (askR (okC p j t h g q s cp l && okR a m st me lo fa nx du ch && okH hf hx0 hm) now)) ∧ Below w.heap.size w w' := by
  have B0 : Below w.heap.size w (((w.alloc (.cells #[.int .i64 p, .int .i64 j, .int .i64 t, .int .i64 h, .int .i64 g, .int .i64 q, .int .i64 s, .int .i64 cp, .slice A n k] 24)).alloc (.cells #[.int .u32 a, .int .i64 m, .int .i64 st, .int .i64 me, .int .i64 lo, .int .i64 fa, .int .u32 nx, .int .i64 du, .bool ch] 31)).alloc (.cells #[.int .i64 hf, .int .u32 hx0, .int .i64 hm] 33)) := balloc (balloc (balloc (Below.refl _ _) _) _) _
  have HC := Lib.hid (right8_any p j t h g q s cp A n k B l hn (((w.alloc (.cells #[.int .i64 p, .int .i64 j, .int .i64 t, .int .i64 h, .int .i64 g, .int .i64 q, .int .i64 s, .int .i64 cp, .slice A n k] 24)).alloc (.cells #[.int .u32 a, .int .i64 m, .int .i64 st, .int .i64 me, .int .i64 lo, .int .i64 fa, .int .u32 nx, .int .i64 du, .bool ch] 31)).alloc (.cells #[.int .i64 hf, .int .u32 hx0, .int .i64 hm] 33)) (hr.below (B0.mono hB)) (by simp; omega) hnk hk hl)
  have HR := Lib.hid (fun W => rright_any a m st me lo fa nx du ch W ha hx)
  have HH := Lib.hid (fun W => rheard_any hf hx0 hm W hy)
  have HA := Lib.hid (fun W (hW : Below w.heap.size w W) => rasked_any p j t h g q s cp A n k B l hn a m st me lo fa nx du ch now W (hr.below (hW.mono hB)) (by have := hW.size; omega) hnk hk hl ha hx)
  have yc := ((Blk.new w 24 #[.int .i64 p, .int .i64 j, .int .i64 t, .int .i64 h, .int .i64 g, .int .i64 q, .int .i64 s, .int .i64 cp, .slice A n k]).alloc (.cells #[.int .u32 a, .int .i64 m, .int .i64 st, .int .i64 me, .int .i64 lo, .int .i64 fa, .int .u32 nx, .int .i64 du, .bool ch] 31)).alloc (.cells #[.int .i64 hf, .int .u32 hx0, .int .i64 hm] 33)
  have yr := (Blk.new (w.alloc (.cells #[.int .i64 p, .int .i64 j, .int .i64 t, .int .i64 h, .int .i64 g, .int .i64 q, .int .i64 s, .int .i64 cp, .slice A n k] 24)) 31 #[.int .u32 a, .int .i64 m, .int .i64 st, .int .i64 me, .int .i64 lo, .int .i64 fa, .int .u32 nx, .int .i64 du, .bool ch]).alloc (.cells #[.int .i64 hf, .int .u32 hx0, .int .i64 hm] 33)
  have yh := Blk.new ((w.alloc (.cells #[.int .i64 p, .int .i64 j, .int .i64 t, .int .i64 h, .int .i64 g, .int .i64 q, .int .i64 s, .int .i64 cp, .slice A n k] 24)).alloc (.cells #[.int .u32 a, .int .i64 m, .int .i64 st, .int .i64 me, .int .i64 lo, .int .i64 fa, .int .u32 nx, .int .i64 du, .bool ch] 31)) 33 #[.int .i64 hf, .int .u32 hx0, .int .i64 hm]
  simp only [World.size_alloc] at yr yh
  have Y := Lib.hid (And.intro yc (And.intro yr (And.intro yh B0)))
  clear hr hl ha hx hy yc yr yh B0
  generalize okC p j t h g q s cp l = oc at *
  generalize okR a m st me lo fa nx du ch = or at *
  generalize okH hf hx0 hm = oh at *
  cases oc
  · go_enter Tryd.func11, Tryd.ntmps11
    go_wp2_with fail
    refine HC.out.mono ?_
    rintro e w1 ⟨rfl, b1⟩
    go_wp2_with fail
    go_ret
    exact ⟨rfl, bnext Y.out.2.2.2 b1⟩
  cases or
  · go_enter Tryd.func11, Tryd.ntmps11
    go_wp2_with fail
    refine HC.out.mono ?_
    rintro e w1 ⟨rfl, b1⟩
    have y1 := Y.out.2.1.below b1 Y.out.2.1.lt
    have c0 := (y1).cell 0
    have c1 := (y1).cell 1
    have c2 := (y1).cell 2
    have c3 := (y1).cell 3
    have c4 := (y1).cell 4
    have c5 := (y1).cell 5
    have c6 := (y1).cell 6
    have c7 := (y1).cell 7
    have c8 := (y1).cell 8
    simp only [List.getElem?_toArray, List.getElem?_cons_zero, List.getElem?_cons_succ] at c0 c1 c2 c3 c4 c5 c6 c7 c8
    have BB := bnext Y.out.2.2.2 b1
    clear y1 b1
    go_wp2_with fail
    refine (HR.out _).mono ?_
    rintro e w2 ⟨rfl, b2⟩
    go_wp2_with fail
    go_ret
    exact ⟨rfl, bnext BB b2⟩
  obtain ⟨er0, her⟩ : ∃ x, x = askR (true && true) now := ⟨_, rfl⟩
  rw [← her] at HA
  have HER := Lib.hid her
  clear her
  cases oh
  · go_enter Tryd.func11, Tryd.ntmps11
    go_wp2_with fail
    refine HC.out.mono ?_
    rintro e w1 ⟨rfl, b1⟩
    have y1 := Y.out.2.1.below b1 Y.out.2.1.lt
    have y2 := Lib.hid (Y.out.2.2.1.below b1 Y.out.2.2.1.lt)
    have c0 := (y1).cell 0
    have c1 := (y1).cell 1
    have c2 := (y1).cell 2
    have c3 := (y1).cell 3
    have c4 := (y1).cell 4
    have c5 := (y1).cell 5
    have c6 := (y1).cell 6
    have c7 := (y1).cell 7
    have c8 := (y1).cell 8
    simp only [List.getElem?_toArray, List.getElem?_cons_zero, List.getElem?_cons_succ] at c0 c1 c2 c3 c4 c5 c6 c7 c8
    have BB := bnext Y.out.2.2.2 b1
    clear y1 b1
    go_wp2_with fail
    refine (HR.out _).mono ?_
    rintro e w2 ⟨rfl, b2⟩
    have y3 := y2.out.below b2 y2.out.lt
    clear c0 c1 c2 c3 c4 c5 c6 c7 c8
    have c0 := (y3).cell 0
    have c1 := (y3).cell 1
    have c2 := (y3).cell 2
    simp only [List.getElem?_toArray, List.getElem?_cons_zero, List.getElem?_cons_succ] at c0 c1 c2
    clear y3
    go_wp2_with fail
    refine (HH.out _).mono ?_
    rintro e w3 ⟨rfl, b3⟩
    go_wp2_with fail
    go_ret
    exact ⟨rfl, bnext (bnext BB b2) b3⟩
  · go_enter Tryd.func11, Tryd.ntmps11
    go_wp2_with fail
    refine HC.out.mono ?_
    rintro e w1 ⟨rfl, b1⟩
    obtain ⟨y0, y1, y2, BB⟩ := Y.out
    replace y0 := y0.below b1 y0.lt
    replace y1 := y1.below b1 y1.lt
    replace y2 := y2.below b1 y2.lt
    replace BB := bnext BB b1
    have c0 := (y1).cell 0
    have c1 := (y1).cell 1
    have c2 := (y1).cell 2
    have c3 := (y1).cell 3
    have c4 := (y1).cell 4
    have c5 := (y1).cell 5
    have c6 := (y1).cell 6
    have c7 := (y1).cell 7
    have c8 := (y1).cell 8
    simp only [List.getElem?_toArray, List.getElem?_cons_zero, List.getElem?_cons_succ] at c0 c1 c2 c3 c4 c5 c6 c7 c8
    have Y2 := Lib.hid (And.intro y0 (And.intro y1 (And.intro y2 BB)))
    clear y0 y1 y2 b1 BB
    go_wp2_with fail
    refine (HR.out _).mono ?_
    rintro e w2 ⟨rfl, b2⟩
    obtain ⟨y0, y1, y2, BB⟩ := Y2.out
    replace y0 := y0.below b2 y0.lt
    replace y1 := y1.below b2 y1.lt
    replace y2 := y2.below b2 y2.lt
    replace BB := bnext BB b2
    clear c0 c1 c2 c3 c4 c5 c6 c7 c8
    have c0 := (y2).cell 0
    have c1 := (y2).cell 1
    have c2 := (y2).cell 2
    simp only [List.getElem?_toArray, List.getElem?_cons_zero, List.getElem?_cons_succ] at c0 c1 c2
    have Y3 := Lib.hid (And.intro y0 (And.intro y1 BB))
    clear y0 y1 y2 b2 BB Y2
    go_wp2_with fail
    refine (HH.out _).mono ?_
    rintro e w3 ⟨rfl, b3⟩
    obtain ⟨y0, y1, BB⟩ := Y3.out
    replace y0 := y0.below b3 y0.lt
    replace y1 := y1.below b3 y1.lt
    replace BB := bnext BB b3
    clear c0 c1 c2
    have c0 := (y1).cell 0
    have c1 := (y1).cell 1
    have c2 := (y1).cell 2
    have c3 := (y1).cell 3
    have c4 := (y1).cell 4
    have c5 := (y1).cell 5
    have c6 := (y1).cell 6
    have c7 := (y1).cell 7
    have c8 := (y1).cell 8
    simp only [List.getElem?_toArray, List.getElem?_cons_zero, List.getElem?_cons_succ] at c0 c1 c2 c3 c4 c5 c6 c7 c8
    have k0 := (y0).cell 0
    have k1 := (y0).cell 1
    have k2 := (y0).cell 2
    have k3 := (y0).cell 3
    have k4 := (y0).cell 4
    have k5 := (y0).cell 5
    have k6 := (y0).cell 6
    have k7 := (y0).cell 7
    have k8 := (y0).cell 8
    simp only [List.getElem?_toArray, List.getElem?_cons_zero, List.getElem?_cons_succ] at k0 k1 k2 k3 k4 k5 k6 k7 k8
    clear y0 y1 b3
    go_wp2_with fail
    refine (HA.out _ BB).mono ?_
    rintro e w4 ⟨rfl, b4⟩
    go_wp2_with fail
    go_ret
    exact ⟨by rw [show askR (true && true && true) now = er0 from HER.out.symm]; rfl, bnext BB b4⟩

/-- what is told of a route by a face -/
def toldR (ok : Bool) (st me fa face : Int) : Int := if ok = false then 0 else if (st == 2 && fa == face) = true then 16 else me
set_option maxHeartbeats 2000000 in
theorem told_any (a : Nat) (m st me lo fa : Int) (nx : Nat) (du : Int) (ch : Bool) (face : Int) (w : World) (ha : a < 4294967296) (hx : nx < 4294967296) :
    Calls Tryd.prog 19 #[.agg #[.int .u32 a, .int .i64 m, .int .i64 st, .int .i64 me, .int .i64 lo, .int .i64 fa, .int .u32 nx, .int .i64 du, .bool ch], .int .i64 face] w fun e w' => e = .returned (.int .i64 (toldR (okR a m st me lo fa nx du ch) st me fa face)) ∧ Below w.heap.size w w' := by
  have HR := Lib.hid (fun W => rcheck_any a m st me lo fa nx du ch W ha hx)
  have HE := Lib.hid (Blk.new w 31 #[.int .u32 a, .int .i64 m, .int .i64 st, .int .i64 me, .int .i64 lo, .int .i64 fa, .int .u32 nx, .int .i64 du, .bool ch])
  clear ha hx
  generalize okR a m st me lo fa nx du ch = or at *
  generalize e1 : (st == 2) = b1
  generalize e2 : (fa == face) = b2
  have ht : ∀ me, toldR or st me fa face = if or = false then 0 else if (b1 && b2) = true then 16 else me := fun me => by unfold toldR; rw [e1, e2]
  rw [ht]
  clear ht
  cases or
  · go_enter Tryd.func19, Tryd.ntmps19
    go_wp2_with fail
    refine (HR.out _).mono ?_
    rintro e w1 ⟨rfl, b1⟩
    go_wp2_with fail
    go_ret
    exact ⟨rfl, bnext (balloc (Below.refl _ _) _) b1⟩
  cases b1 <;> cases b2
  all_goals
    go_enter Tryd.func19, Tryd.ntmps19
    go_wp2_with fail
    refine (HR.out _).mono ?_
    rintro e w1 ⟨rfl, b1⟩
    have y1 := HE.out.below b1 (by simp)
    have c0 := (y1).cell 0
    have c1 := (y1).cell 1
    have c2 := (y1).cell 2
    have c3 := (y1).cell 3
    have c4 := (y1).cell 4
    have c5 := (y1).cell 5
    have c6 := (y1).cell 6
    have c7 := (y1).cell 7
    have c8 := (y1).cell 8
    simp only [List.getElem?_toArray, List.getElem?_cons_zero, List.getElem?_cons_succ] at c0 c1 c2 c3 c4 c5 c6 c7 c8
    have BB := bnext (balloc (Below.refl w.heap.size w) _) b1
    clear y1 b1
    go_wp2_with fail
    go_ret
    exact ⟨rfl, BB⟩
set_option maxHeartbeats 2000000 in
theorem rtold_any (a : Nat) (m st me lo fa : Int) (nx : Nat) (du : Int) (ch : Bool) (face : Int) (w : World) (ha : a < 4294967296) (hx : nx < 4294967296) :
    Calls Tryd.prog 20 #[.agg #[.int .u32 a, .int .i64 m, .int .i64 st, .int .i64 me, .int .i64 lo, .int .i64 fa, .int .u32 nx, .int .i64 du, .bool ch], .int .i64 face] w fun e w' => e = .returned (.int .i64 (toldR (okR a m st me lo fa nx du ch) st me fa face)) ∧ Below w.heap.size w w' := by
  have HR := Lib.hid (fun W => rright_any a m st me lo fa nx du ch W ha hx)
  have HE := Lib.hid (Blk.new w 31 #[.int .u32 a, .int .i64 m, .int .i64 st, .int .i64 me, .int .i64 lo, .int .i64 fa, .int .u32 nx, .int .i64 du, .bool ch])
  clear ha hx
  generalize okR a m st me lo fa nx du ch = or at *
  generalize e1 : (st == 2) = b1
  generalize e2 : (fa == face) = b2
  have ht : ∀ me, toldR or st me fa face = if or = false then 0 else if (b1 && b2) = true then 16 else me := fun me => by unfold toldR; rw [e1, e2]
  rw [ht]
  clear ht
  cases or
  · go_enter Tryd.func20, Tryd.ntmps20
    go_wp2_with fail
    refine (HR.out _).mono ?_
    rintro e w1 ⟨rfl, b1⟩
    go_wp2_with fail
    go_ret
    exact ⟨rfl, bnext (balloc (Below.refl _ _) _) b1⟩
  cases b1 <;> cases b2
  all_goals
    go_enter Tryd.func20, Tryd.ntmps20
    go_wp2_with fail
    refine (HR.out _).mono ?_
    rintro e w1 ⟨rfl, b1⟩
    have y1 := HE.out.below b1 (by simp)
    have c0 := (y1).cell 0
    have c1 := (y1).cell 1
    have c2 := (y1).cell 2
    have c3 := (y1).cell 3
    have c4 := (y1).cell 4
    have c5 := (y1).cell 5
    have c6 := (y1).cell 6
    have c7 := (y1).cell 7
    have c8 := (y1).cell 8
    simp only [List.getElem?_toArray, List.getElem?_cons_zero, List.getElem?_cons_succ] at c0 c1 c2 c3 c4 c5 c6 c7 c8
    have BB := bnext (balloc (Below.refl w.heap.size w) _) b1
    clear y1 b1
    go_wp2_with fail
    go_ret
    exact ⟨rfl, BB⟩

/-- the direct route of a prefix -/
def ownR (a : Nat) (m : Int) : Rt := ⟨a, m, 1, 1, 0, 0, 0, 0, true⟩
set_option maxHeartbeats 2000000 in
theorem refOwn_any (a : Nat) (m : Int) (w : World) :
    Calls Tryd.prog 22 #[.agg #[.int .u32 a, .int .i64 m]] w fun e w' => e = .returned (.agg #[.int .u32 a, .int .i64 m, .int .i64 1, .int .i64 1, .int .i64 0, .int .i64 0, .int .u32 0, .int .i64 0, .bool true]) ∧ Below w.heap.size w w' := by
  go_enter Tryd.func22, Tryd.ntmps22
  go_wp2_with fail
  go_returns
  exact ⟨rfl, by go_grown⟩
theorem own_ok (a : Nat) (m : Int) : okR a m 1 1 0 0 0 0 true = okOf a m 1 := by
  show (s1F 1 0 0 0 0 && okOf a m 1) = _
  rw [show s1F 1 0 0 0 0 = true from rfl, Bool.true_and]
set_option maxHeartbeats 2000000 in
theorem rown11_any (a : Nat) (m : Int) (w : World) (ha : a < 4294967296) :
    Calls Tryd.prog 17 #[.agg #[.int .u32 a, .int .i64 m]] w (GivR (errC (okOf a m 1)) (outR (errC (okOf a m 1)) (ownR a m)) w) := by
  have HR := Lib.hid (fun W => rcheck_any a m 1 1 0 0 0 0 true W ha (by decide))
  rw [own_ok] at HR
  have yo := (Blk.new (w.alloc (.cells #[.int .u32 a, .int .i64 m] 28)) 31 #[.int .u32 0, .int .i64 0, .int .i64 0, .int .i64 0, .int .i64 0, .int .i64 0, .int .u32 0, .int .i64 0, .bool false]).alloc (.cells #[.int .u32 a, .int .i64 m, .int .i64 1, .int .i64 1, .int .i64 0, .int .i64 0, .int .u32 0, .int .i64 0, .bool true] 31)
  have yr := Blk.new ((w.alloc (.cells #[.int .u32 a, .int .i64 m] 28)).alloc (.cells #[.int .u32 0, .int .i64 0, .int .i64 0, .int .i64 0, .int .i64 0, .int .i64 0, .int .u32 0, .int .i64 0, .bool false] 31)) 31 #[.int .u32 a, .int .i64 m, .int .i64 1, .int .i64 1, .int .i64 0, .int .i64 0, .int .u32 0, .int .i64 0, .bool true]
  have B0 : Below w.heap.size w (((w.alloc (.cells #[.int .u32 a, .int .i64 m] 28)).alloc (.cells #[.int .u32 0, .int .i64 0, .int .i64 0, .int .i64 0, .int .i64 0, .int .i64 0, .int .u32 0, .int .i64 0, .bool false] 31)).alloc (.cells #[.int .u32 a, .int .i64 m, .int .i64 1, .int .i64 1, .int .i64 0, .int .i64 0, .int .u32 0, .int .i64 0, .bool true] 31)) := balloc (balloc (balloc (Below.refl _ _) _) _) _
  simp only [World.size_alloc] at yo yr
  have Y := Lib.hid (And.intro yo (And.intro yr B0))
  clear ha yo yr B0
  generalize okOf a m 1 = ok at *
  cases ok
  case false =>
    go_enter Tryd.func17, Tryd.ntmps17
    go_wp2_with fail
    refine (HR.out _).mono ?_
    rintro e w1 ⟨rfl, b1⟩
    obtain ⟨yo, yr, BB⟩ := Y.out
    replace yo := yo.below b1 yo.lt
    replace yr := yr.below b1 yr.lt
    replace BB := bnext BB b1
    have zo := put9 yo (.int .u32 0) (.int .i64 0) (.int .i64 0) (.int .i64 0) (.int .i64 0) (.int .i64 0) (.int .u32 0) (.int .i64 0) (.bool false)
    have zb := put9_below (b := w.heap.size + 1) BB (by omega) (.int .u32 0) (.int .i64 0) (.int .i64 0) (.int .i64 0) (.int .i64 0) (.int .i64 0) (.int .u32 0) (.int .i64 0) (.bool false)
    have Q := Lib.hid (And.intro zo zb)
    have c0 := (yo).cell 0
    have c1 := (yo).cell 1
    have c2 := (yo).cell 2
    have c3 := (yo).cell 3
    have c4 := (yo).cell 4
    have c5 := (yo).cell 5
    have c6 := (yo).cell 6
    have c7 := (yo).cell 7
    have c8 := (yo).cell 8
    simp only [List.getElem?_toArray, List.getElem?_cons_zero, List.getElem?_cons_succ] at c0 c1 c2 c3 c4 c5 c6 c7 c8
    have f0 := yo.frozen 0
    have f1 := yo.frozen 1
    have f2 := yo.frozen 2
    have f3 := yo.frozen 3
    have f4 := yo.frozen 4
    have f5 := yo.frozen 5
    have f6 := yo.frozen 6
    have f7 := yo.frozen 7
    have f8 := yo.frozen 8
    have r0 := (yr).cell 0
    have r1 := (yr).cell 1
    have r2 := (yr).cell 2
    have r3 := (yr).cell 3
    have r4 := (yr).cell 4
    have r5 := (yr).cell 5
    have r6 := (yr).cell 6
    have r7 := (yr).cell 7
    have r8 := (yr).cell 8
    simp only [List.getElem?_toArray, List.getElem?_cons_zero, List.getElem?_cons_succ] at r0 r1 r2 r3 r4 r5 r6 r7 r8
    clear yo yr BB b1 zo zb
    go_wp2_with fail
    clear c0 c1 c2 c3 c4 c5 c6 c7 c8 f0 f1 f2 f3 f4 f5 f6 f7 f8 r0 r1 r2 r3 r4 r5 r6 r7 r8
    generalize (((((((((w1.setCell ⟨w.heap.size + 1, 0, none⟩ (.int .u32 0)).setCell ⟨w.heap.size + 1, 1, none⟩ (.int .i64 0)).setCell ⟨w.heap.size + 1, 2, none⟩ (.int .i64 0)).setCell ⟨w.heap.size + 1, 3, none⟩ (.int .i64 0)).setCell ⟨w.heap.size + 1, 4, none⟩ (.int .i64 0)).setCell ⟨w.heap.size + 1, 5, none⟩ (.int .i64 0)).setCell ⟨w.heap.size + 1, 6, none⟩ (.int .u32 0)).setCell ⟨w.heap.size + 1, 7, none⟩ (.int .i64 0)).setCell ⟨w.heap.size + 1, 8, none⟩ (.bool false)) = wz at *
    have zz := Q.out.1
    have d0 := (zz).cell 0
    have d1 := (zz).cell 1
    have d2 := (zz).cell 2
    have d3 := (zz).cell 3
    have d4 := (zz).cell 4
    have d5 := (zz).cell 5
    have d6 := (zz).cell 6
    have d7 := (zz).cell 7
    have d8 := (zz).cell 8
    simp only [List.getElem?_toArray, List.getElem?_cons_zero, List.getElem?_cons_succ] at d0 d1 d2 d3 d4 d5 d6 d7 d8
    refine bodyPost_ret (v := .tuple #[.agg #[.int .u32 0, .int .i64 0, .int .i64 0, .int .i64 0, .int .i64 0, .int .i64 0, .int .u32 0, .int .i64 0, .bool false], .int .i64 2]) (by simp [results, Tryd.results17, go_sem, d0, d1, d2, d3, d4, d5, d6, d7, d8]) rfl ?_
    exact ⟨rfl, Q.out.2⟩
  case true =>
    go_enter Tryd.func17, Tryd.ntmps17
    go_wp2_with fail
    refine (HR.out _).mono ?_
    rintro e w1 ⟨rfl, b1⟩
    obtain ⟨yo, yr, BB⟩ := Y.out
    replace yo := yo.below b1 yo.lt
    replace yr := yr.below b1 yr.lt
    replace BB := bnext BB b1
    have zo := put9 yo (.int .u32 a) (.int .i64 m) (.int .i64 1) (.int .i64 1) (.int .i64 0) (.int .i64 0) (.int .u32 0) (.int .i64 0) (.bool true)
    have zb := put9_below (b := w.heap.size + 1) BB (by omega) (.int .u32 a) (.int .i64 m) (.int .i64 1) (.int .i64 1) (.int .i64 0) (.int .i64 0) (.int .u32 0) (.int .i64 0) (.bool true)
    have Q := Lib.hid (And.intro zo zb)
    have c0 := (yo).cell 0
    have c1 := (yo).cell 1
    have c2 := (yo).cell 2
    have c3 := (yo).cell 3
    have c4 := (yo).cell 4
    have c5 := (yo).cell 5
    have c6 := (yo).cell 6
    have c7 := (yo).cell 7
    have c8 := (yo).cell 8
    simp only [List.getElem?_toArray, List.getElem?_cons_zero, List.getElem?_cons_succ] at c0 c1 c2 c3 c4 c5 c6 c7 c8
    have f0 := yo.frozen 0
    have f1 := yo.frozen 1
    have f2 := yo.frozen 2
    have f3 := yo.frozen 3
    have f4 := yo.frozen 4
    have f5 := yo.frozen 5
    have f6 := yo.frozen 6
    have f7 := yo.frozen 7
    have f8 := yo.frozen 8
    have r0 := (yr).cell 0
    have r1 := (yr).cell 1
    have r2 := (yr).cell 2
    have r3 := (yr).cell 3
    have r4 := (yr).cell 4
    have r5 := (yr).cell 5
    have r6 := (yr).cell 6
    have r7 := (yr).cell 7
    have r8 := (yr).cell 8
    simp only [List.getElem?_toArray, List.getElem?_cons_zero, List.getElem?_cons_succ] at r0 r1 r2 r3 r4 r5 r6 r7 r8
    clear yo yr BB b1 zo zb
    go_wp2_with fail
    clear c0 c1 c2 c3 c4 c5 c6 c7 c8 f0 f1 f2 f3 f4 f5 f6 f7 f8 r0 r1 r2 r3 r4 r5 r6 r7 r8
    generalize (((((((((w1.setCell ⟨w.heap.size + 1, 0, none⟩ (.int .u32 a)).setCell ⟨w.heap.size + 1, 1, none⟩ (.int .i64 m)).setCell ⟨w.heap.size + 1, 2, none⟩ (.int .i64 1)).setCell ⟨w.heap.size + 1, 3, none⟩ (.int .i64 1)).setCell ⟨w.heap.size + 1, 4, none⟩ (.int .i64 0)).setCell ⟨w.heap.size + 1, 5, none⟩ (.int .i64 0)).setCell ⟨w.heap.size + 1, 6, none⟩ (.int .u32 0)).setCell ⟨w.heap.size + 1, 7, none⟩ (.int .i64 0)).setCell ⟨w.heap.size + 1, 8, none⟩ (.bool true)) = wz at *
    have zz := Q.out.1
    have d0 := (zz).cell 0
    have d1 := (zz).cell 1
    have d2 := (zz).cell 2
    have d3 := (zz).cell 3
    have d4 := (zz).cell 4
    have d5 := (zz).cell 5
    have d6 := (zz).cell 6
    have d7 := (zz).cell 7
    have d8 := (zz).cell 8
    simp only [List.getElem?_toArray, List.getElem?_cons_zero, List.getElem?_cons_succ] at d0 d1 d2 d3 d4 d5 d6 d7 d8
    refine bodyPost_ret (v := .tuple #[.agg #[.int .u32 a, .int .i64 m, .int .i64 1, .int .i64 1, .int .i64 0, .int .i64 0, .int .u32 0, .int .i64 0, .bool true], .int .i64 0]) (by simp [results, Tryd.results17, go_sem, d0, d1, d2, d3, d4, d5, d6, d7, d8]) rfl ?_
    exact ⟨rfl, Q.out.2⟩
set_option maxHeartbeats 2000000 in
theorem refLose_2x (p j t h g q s cp : Int) (A : Option Addr) (n k : Nat) (a : Nat) (m me lo fa : Int) (nx : Nat) (du : Int) (ch : Bool) (now : Int) (w : World) (hwr : IntKind.i64.wrap (now + h) = now + h) :
    Calls Tryd.prog 26 #[.agg #[.int .i64 p, .int .i64 j, .int .i64 t, .int .i64 h, .int .i64 g, .int .i64 q, .int .i64 s, .int .i64 cp, .slice A n k], .agg #[.int .u32 a, .int .i64 m, .int .i64 2, .int .i64 me, .int .i64 lo, .int .i64 fa, .int .u32 nx, .int .i64 du, .bool ch], .int .i64 now] w fun e w' => (∃ r, r = lostR h ⟨a, m, 2, me, lo, fa, nx, du, ch⟩ now ∧ e = .returned (.agg #[.int .u32 r.a, .int .i64 r.m, .int .i64 r.st, .int .i64 r.me, .int .i64 r.lo, .int .i64 r.fa, .int .u32 r.nx, .int .i64 r.du, .bool r.ch])) ∧ Below w.heap.size w w' := by
  go_enter Tryd.func26, Tryd.ntmps26
  go_wp2_with fail
  go_returns
  exact ⟨⟨_, rfl, rfl⟩, by go_grown⟩

set_option maxHeartbeats 2000000 in
theorem rexp_low (p j t h g q s cp : Int) (A : Option Addr) (n k : Nat) (a : Nat) (m st me lo fa : Int) (nx : Nat) (du : Int) (ch : Bool) (now : Int) (w : World) (hwr : IntKind.i64.wrap (now + h) = now + h) (hwg : IntKind.i64.wrap (now + g) = now + g) (hlt : decide (st < 2) = true) :
    Calls Tryd.prog 27 #[.agg #[.int .i64 p, .int .i64 j, .int .i64 t, .int .i64 h, .int .i64 g, .int .i64 q, .int .i64 s, .int .i64 cp, .slice A n k], .agg #[.int .u32 a, .int .i64 m, .int .i64 st, .int .i64 me, .int .i64 lo, .int .i64 fa, .int .u32 nx, .int .i64 du, .bool ch], .int .i64 now] w fun e w' => (∃ r, r = (⟨a, m, st, me, lo, fa, nx, du, ch⟩ : Rt) ∧ e = .returned (.agg #[.int .u32 r.a, .int .i64 r.m, .int .i64 r.st, .int .i64 r.me, .int .i64 r.lo, .int .i64 r.fa, .int .u32 r.nx, .int .i64 r.du, .bool r.ch])) ∧ Below w.heap.size w w' := by
  clear hwr
  go_enter Tryd.func27, Tryd.ntmps27
  go_wp2_with fail
  go_returns
  exact ⟨⟨_, rfl, rfl⟩, by go_grown⟩

set_option maxHeartbeats 2000000 in
theorem rexp_wait (p j t h g q s cp : Int) (A : Option Addr) (n k : Nat) (a : Nat) (m st me lo fa : Int) (nx : Nat) (du : Int) (ch : Bool) (now : Int) (w : World) (hwr : IntKind.i64.wrap (now + h) = now + h) (hwg : IntKind.i64.wrap (now + g) = now + g) (hlt : decide (st < 2) = false) (hd : decide (now < du) = true) :
    Calls Tryd.prog 27 #[.agg #[.int .i64 p, .int .i64 j, .int .i64 t, .int .i64 h, .int .i64 g, .int .i64 q, .int .i64 s, .int .i64 cp, .slice A n k], .agg #[.int .u32 a, .int .i64 m, .int .i64 st, .int .i64 me, .int .i64 lo, .int .i64 fa, .int .u32 nx, .int .i64 du, .bool ch], .int .i64 now] w fun e w' => (∃ r, r = (⟨a, m, st, me, lo, fa, nx, du, ch⟩ : Rt) ∧ e = .returned (.agg #[.int .u32 r.a, .int .i64 r.m, .int .i64 r.st, .int .i64 r.me, .int .i64 r.lo, .int .i64 r.fa, .int .u32 r.nx, .int .i64 r.du, .bool r.ch])) ∧ Below w.heap.size w w' := by
  clear hwr
  go_enter Tryd.func27, Tryd.ntmps27
  go_wp2_with fail
  go_returns
  exact ⟨⟨_, rfl, rfl⟩, by go_grown⟩

set_option maxHeartbeats 2000000 in
theorem rexp_two (p j t h g q s cp : Int) (A : Option Addr) (n k : Nat) (a : Nat) (m me lo fa : Int) (nx : Nat) (du : Int) (ch : Bool) (now : Int) (w : World) (hwr : IntKind.i64.wrap (now + h) = now + h) (hwg : IntKind.i64.wrap (now + g) = now + g) (hd : decide (now < du) = false) :
    Calls Tryd.prog 27 #[.agg #[.int .i64 p, .int .i64 j, .int .i64 t, .int .i64 h, .int .i64 g, .int .i64 q, .int .i64 s, .int .i64 cp, .slice A n k], .agg #[.int .u32 a, .int .i64 m, .int .i64 2, .int .i64 me, .int .i64 lo, .int .i64 fa, .int .u32 nx, .int .i64 du, .bool ch], .int .i64 now] w fun e w' => (∃ r, r = (lostR h ⟨a, m, 2, me, lo, fa, nx, du, ch⟩ now : Rt) ∧ e = .returned (.agg #[.int .u32 r.a, .int .i64 r.m, .int .i64 r.st, .int .i64 r.me, .int .i64 r.lo, .int .i64 r.fa, .int .u32 r.nx, .int .i64 r.du, .bool r.ch])) ∧ Below w.heap.size w w' := by
  have HL := Lib.hid (fun W => refLose_2x p j t h g q s cp A n k a m me lo fa nx du ch now W hwr)
  have y := Blk.new ((w.alloc (.cells #[.int .i64 p, .int .i64 j, .int .i64 t, .int .i64 h, .int .i64 g, .int .i64 q, .int .i64 s, .int .i64 cp, .slice A n k] 24)).alloc (.cells #[.int .u32 a, .int .i64 m, .int .i64 2, .int .i64 me, .int .i64 lo, .int .i64 fa, .int .u32 nx, .int .i64 du, .bool ch] 31)) 31 #[.int .u32 0, .int .i64 0, .int .i64 0, .int .i64 0, .int .i64 0, .int .i64 0, .int .u32 0, .int .i64 0, .bool false]
  simp only [World.size_alloc] at y
  have B0 : Below w.heap.size w (((w.alloc (.cells #[.int .i64 p, .int .i64 j, .int .i64 t, .int .i64 h, .int .i64 g, .int .i64 q, .int .i64 s, .int .i64 cp, .slice A n k] 24)).alloc (.cells #[.int .u32 a, .int .i64 m, .int .i64 2, .int .i64 me, .int .i64 lo, .int .i64 fa, .int .u32 nx, .int .i64 du, .bool ch] 31)).alloc (.cells #[.int .u32 0, .int .i64 0, .int .i64 0, .int .i64 0, .int .i64 0, .int .i64 0, .int .u32 0, .int .i64 0, .bool false] 31)) := balloc (balloc (balloc (Below.refl _ _) _) _) _
  have Y := Lib.hid (And.intro y B0)
  clear y B0 hwr
  go_enter Tryd.func27, Tryd.ntmps27
  go_wp2_with fail
  refine (HL.out _).mono ?_
  rintro e w1 ⟨⟨⟨a1, m1, st1, me1, lo1, fa1, nx1, du1, ch1⟩, hr1, rfl⟩, b1⟩
  have HR := Lib.hid hr1
  clear hr1
  have y1 := Y.out.1.below b1 Y.out.1.lt
  have c0 := (y1).cell 0
  have c1 := (y1).cell 1
  have c2 := (y1).cell 2
  have c3 := (y1).cell 3
  have c4 := (y1).cell 4
  have c5 := (y1).cell 5
  have c6 := (y1).cell 6
  have c7 := (y1).cell 7
  have c8 := (y1).cell 8
  simp only [List.getElem?_toArray, List.getElem?_cons_zero, List.getElem?_cons_succ] at c0 c1 c2 c3 c4 c5 c6 c7 c8
  have f0 := y1.frozen 0
  have f1 := y1.frozen 1
  have f2 := y1.frozen 2
  have f3 := y1.frozen 3
  have f4 := y1.frozen 4
  have f5 := y1.frozen 5
  have f6 := y1.frozen 6
  have f7 := y1.frozen 7
  have f8 := y1.frozen 8
  have z := (((((((((y1.set 0 (.int .u32 a1)).set 1 (.int .i64 m1)).set 2 (.int .i64 st1)).set 3 (.int .i64 me1)).set 4 (.int .i64 lo1)).set 5 (.int .i64 fa1)).set 6 (.int .u32 nx1)).set 7 (.int .i64 du1)).set 8 (.bool ch1))
  simp only [List.setIfInBounds_toArray, List.set_cons_zero, List.set_cons_succ] at z
  have bz : Below w.heap.size w (((((((((w1.setCell ⟨w.heap.size + 1 + 1, 0, none⟩ (.int .u32 a1)).setCell ⟨w.heap.size + 1 + 1, 1, none⟩ (.int .i64 m1)).setCell ⟨w.heap.size + 1 + 1, 2, none⟩ (.int .i64 st1)).setCell ⟨w.heap.size + 1 + 1, 3, none⟩ (.int .i64 me1)).setCell ⟨w.heap.size + 1 + 1, 4, none⟩ (.int .i64 lo1)).setCell ⟨w.heap.size + 1 + 1, 5, none⟩ (.int .i64 fa1)).setCell ⟨w.heap.size + 1 + 1, 6, none⟩ (.int .u32 nx1)).setCell ⟨w.heap.size + 1 + 1, 7, none⟩ (.int .i64 du1)).setCell ⟨w.heap.size + 1 + 1, 8, none⟩ (.bool ch1)) := ((((((((((bnext Y.out.2 b1).setCell (p := ⟨w.heap.size + 1 + 1, 0, none⟩) (by show w.heap.size ≤ w.heap.size + 1 + 1; omega) _).setCell (p := ⟨w.heap.size + 1 + 1, 1, none⟩) (by show w.heap.size ≤ w.heap.size + 1 + 1; omega) _).setCell (p := ⟨w.heap.size + 1 + 1, 2, none⟩) (by show w.heap.size ≤ w.heap.size + 1 + 1; omega) _).setCell (p := ⟨w.heap.size + 1 + 1, 3, none⟩) (by show w.heap.size ≤ w.heap.size + 1 + 1; omega) _).setCell (p := ⟨w.heap.size + 1 + 1, 4, none⟩) (by show w.heap.size ≤ w.heap.size + 1 + 1; omega) _).setCell (p := ⟨w.heap.size + 1 + 1, 5, none⟩) (by show w.heap.size ≤ w.heap.size + 1 + 1; omega) _).setCell (p := ⟨w.heap.size + 1 + 1, 6, none⟩) (by show w.heap.size ≤ w.heap.size + 1 + 1; omega) _).setCell (p := ⟨w.heap.size + 1 + 1, 7, none⟩) (by show w.heap.size ≤ w.heap.size + 1 + 1; omega) _).setCell (p := ⟨w.heap.size + 1 + 1, 8, none⟩) (by show w.heap.size ≤ w.heap.size + 1 + 1; omega) _)
  have QZ := Lib.hid (And.intro z bz)
  clear z bz y1
  go_wp2_with fail
  clear c0 c1 c2 c3 c4 c5 c6 c7 c8 f0 f1 f2 f3 f4 f5 f6 f7 f8
  generalize (((((((((w1.setCell ⟨w.heap.size + 1 + 1, 0, none⟩ (.int .u32 a1)).setCell ⟨w.heap.size + 1 + 1, 1, none⟩ (.int .i64 m1)).setCell ⟨w.heap.size + 1 + 1, 2, none⟩ (.int .i64 st1)).setCell ⟨w.heap.size + 1 + 1, 3, none⟩ (.int .i64 me1)).setCell ⟨w.heap.size + 1 + 1, 4, none⟩ (.int .i64 lo1)).setCell ⟨w.heap.size + 1 + 1, 5, none⟩ (.int .i64 fa1)).setCell ⟨w.heap.size + 1 + 1, 6, none⟩ (.int .u32 nx1)).setCell ⟨w.heap.size + 1 + 1, 7, none⟩ (.int .i64 du1)).setCell ⟨w.heap.size + 1 + 1, 8, none⟩ (.bool ch1)) = wz at *
  have zz := QZ.out.1
  have d0 := (zz).cell 0
  have d1 := (zz).cell 1
  have d2 := (zz).cell 2
  have d3 := (zz).cell 3
  have d4 := (zz).cell 4
  have d5 := (zz).cell 5
  have d6 := (zz).cell 6
  have d7 := (zz).cell 7
  have d8 := (zz).cell 8
  simp only [List.getElem?_toArray, List.getElem?_cons_zero, List.getElem?_cons_succ] at d0 d1 d2 d3 d4 d5 d6 d7 d8
  refine bodyPost_ret (v := .agg #[.int .u32 a1, .int .i64 m1, .int .i64 st1, .int .i64 me1, .int .i64 lo1, .int .i64 fa1, .int .u32 nx1, .int .i64 du1, .bool ch1]) (by simp [results, Tryd.results27, go_sem, d0, d1, d2, d3, d4, d5, d6, d7, d8]) rfl ?_
  exact ⟨⟨_, HR.out, rfl⟩, QZ.out.2⟩

set_option maxHeartbeats 2000000 in
theorem rexp_three (p j t h g q s cp : Int) (A : Option Addr) (n k : Nat) (a : Nat) (m me lo fa : Int) (nx : Nat) (du : Int) (ch : Bool) (now : Int) (w : World) (hwr : IntKind.i64.wrap (now + h) = now + h) (hwg : IntKind.i64.wrap (now + g) = now + g) (hd : decide (now < du) = false) :
    Calls Tryd.prog 27 #[.agg #[.int .i64 p, .int .i64 j, .int .i64 t, .int .i64 h, .int .i64 g, .int .i64 q, .int .i64 s, .int .i64 cp, .slice A n k], .agg #[.int .u32 a, .int .i64 m, .int .i64 3, .int .i64 me, .int .i64 lo, .int .i64 fa, .int .u32 nx, .int .i64 du, .bool ch], .int .i64 now] w fun e w' => (∃ r, r = (⟨a, m, 4, me, 0, fa, nx, now + g, ch⟩ : Rt) ∧ e = .returned (.agg #[.int .u32 r.a, .int .i64 r.m, .int .i64 r.st, .int .i64 r.me, .int .i64 r.lo, .int .i64 r.fa, .int .u32 r.nx, .int .i64 r.du, .bool r.ch])) ∧ Below w.heap.size w w' := by
  clear hwr
  go_enter Tryd.func27, Tryd.ntmps27
  go_wp2_with fail
  go_region
  go_wp2_with fail
  go_returns
  exact ⟨⟨_, rfl, rfl⟩, by go_grown⟩

set_option maxHeartbeats 2000000 in
theorem rexp_four (p j t h g q s cp : Int) (A : Option Addr) (n k : Nat) (a : Nat) (m me lo fa : Int) (nx : Nat) (du : Int) (ch : Bool) (now : Int) (w : World) (hwr : IntKind.i64.wrap (now + h) = now + h) (hwg : IntKind.i64.wrap (now + g) = now + g) (hd : decide (now < du) = false) :
    Calls Tryd.prog 27 #[.agg #[.int .i64 p, .int .i64 j, .int .i64 t, .int .i64 h, .int .i64 g, .int .i64 q, .int .i64 s, .int .i64 cp, .slice A n k], .agg #[.int .u32 a, .int .i64 m, .int .i64 4, .int .i64 me, .int .i64 lo, .int .i64 fa, .int .u32 nx, .int .i64 du, .bool ch], .int .i64 now] w fun e w' => (∃ r, r = ({ rz with a := a, m := m } : Rt) ∧ e = .returned (.agg #[.int .u32 r.a, .int .i64 r.m, .int .i64 r.st, .int .i64 r.me, .int .i64 r.lo, .int .i64 r.fa, .int .u32 r.nx, .int .i64 r.du, .bool r.ch])) ∧ Below w.heap.size w w' := by
  clear hwr
  go_enter Tryd.func27, Tryd.ntmps27
  go_wp2_with fail
  go_returns
  exact ⟨⟨_, rfl, rfl⟩, by go_grown⟩

theorem rexp_any (p j t h g q s cp : Int) (A : Option Addr) (n k : Nat) (a : Nat) (m st me lo fa : Int) (nx : Nat) (du : Int) (ch : Bool) (now : Int) (w : World) (hst : 0 ≤ st ∧ st ≤ 4) (hwr : IntKind.i64.wrap (now + h) = now + h) (hwg : IntKind.i64.wrap (now + g) = now + g) :
    Calls Tryd.prog 27 #[.agg #[.int .i64 p, .int .i64 j, .int .i64 t, .int .i64 h, .int .i64 g, .int .i64 q, .int .i64 s, .int .i64 cp, .slice A n k], .agg #[.int .u32 a, .int .i64 m, .int .i64 st, .int .i64 me, .int .i64 lo, .int .i64 fa, .int .u32 nx, .int .i64 du, .bool ch], .int .i64 now] w fun e w' => (∃ r, r = expR h g ⟨a, m, st, me, lo, fa, nx, du, ch⟩ now ∧ e = .returned (.agg #[.int .u32 r.a, .int .i64 r.m, .int .i64 r.st, .int .i64 r.me, .int .i64 r.lo, .int .i64 r.fa, .int .u32 r.nx, .int .i64 r.du, .bool r.ch])) ∧ Below w.heap.size w w' := by
  by_cases hlt : st < 2
  · rw [show expR h g ⟨a, m, st, me, lo, fa, nx, du, ch⟩ now = ⟨a, m, st, me, lo, fa, nx, du, ch⟩ from if_pos (Or.inl (by
      rcases (by omega : st = 0 ∨ st = 1) with rfl | rfl <;> rfl))]
    exact rexp_low p j t h g q s cp A n k a m st me lo fa nx du ch now w hwr hwg (by simpa using hlt)
  · by_cases hd : now < du
    · rw [show expR h g ⟨a, m, st, me, lo, fa, nx, du, ch⟩ now = ⟨a, m, st, me, lo, fa, nx, du, ch⟩ from if_pos (Or.inr hd)]
      exact rexp_wait p j t h g q s cp A n k a m st me lo fa nx du ch now w hwr hwg (by simpa using hlt) (by simpa using hd)
    · have hno : ∀ x : Int, (x = 2 ∨ x = 3 ∨ x = 4) → ¬ (timF x = false ∨ now < du) := by
        rintro x (rfl | rfl | rfl) (e | e)
        all_goals first | exact hd e | cases e
      rcases (by omega : st = 2 ∨ st = 3 ∨ st = 4) with rfl | rfl | rfl
      · rw [show expR h g ⟨a, m, 2, me, lo, fa, nx, du, ch⟩ now = lostR h ⟨a, m, 2, me, lo, fa, nx, du, ch⟩ now from if_neg (hno 2 (by simp))]
        exact rexp_two p j t h g q s cp A n k a m me lo fa nx du ch now w hwr hwg (by simpa using hd)
      · rw [show expR h g ⟨a, m, 3, me, lo, fa, nx, du, ch⟩ now = ⟨a, m, 4, me, 0, fa, nx, now + g, ch⟩ from if_neg (hno 3 (by simp))]
        exact rexp_three p j t h g q s cp A n k a m me lo fa nx du ch now w hwr hwg (by simpa using hd)
      · rw [show expR h g ⟨a, m, 4, me, lo, fa, nx, du, ch⟩ now = { rz with a := a, m := m } from if_neg (hno 4 (by simp))]
        exact rexp_four p j t h g q s cp A n k a m me lo fa nx du ch now w hwr hwg (by simpa using hd)
end Go.Proofs.YtgjeejdebneoaaaDoor
