/- config.Copy. -/
import Derived.Test.YtcinggnhfgkahaaDoorCfg8
namespace Go.Proofs.YtcinggnhfgkahaaDoor
set_option linter.unusedVariables false
set_option linter.unusedSimpArgs false
open Go.RowKit
set_option maxRecDepth 100000

set_option maxHeartbeats 1000000 in
theorem ccopy_any (p j t h g q s cp : Int) (A : Option Addr) (n k B : Nat) (l : List (Nat × Int)) (hn : l.length = n) (w : World) (hr : Rd w B A (plC l)) (hB : B ≤ w.heap.size) (hl : n ≤ 1048576) :
    Calls Tryd.prog 27 #[.agg #[.int .i64 p, .int .i64 j, .int .i64 t, .int .i64 h, .int .i64 g, .int .i64 q, .int .i64 s, .int .i64 cp, .slice A n k]] w fun e w' => ∃ A1 c1, e = .returned (.agg #[.int .i64 p, .int .i64 j, .int .i64 t, .int .i64 h, .int .i64 g, .int .i64 q, .int .i64 s, .int .i64 cp, .slice A1 n c1]) ∧ n ≤ c1 ∧ c1 ≤ maxLen ∧ Rd w' w'.heap.size A1 (plC l) ∧ Below w.heap.size w w' ∧ (∀ a, A1 = some a → w.heap.size ≤ a.block) := by
  have B0 : Below w.heap.size w ((w.alloc (.cells #[.int .i64 p, .int .i64 j, .int .i64 t, .int .i64 h, .int .i64 g, .int .i64 q, .int .i64 s, .int .i64 cp, .slice A n k] 24)).alloc (.cells #[.int .i64 0, .int .i64 0, .int .i64 0, .int .i64 0, .int .i64 0, .int .i64 0, .int .i64 0, .int .i64 0, .slice none 0 0] 24)) := balloc (balloc (Below.refl _ _) _) _
  have x0 := (Blk.new w 24 #[.int .i64 p, .int .i64 j, .int .i64 t, .int .i64 h, .int .i64 g, .int .i64 q, .int .i64 s, .int .i64 cp, .slice A n k]).alloc (.cells #[.int .i64 0, .int .i64 0, .int .i64 0, .int .i64 0, .int .i64 0, .int .i64 0, .int .i64 0, .int .i64 0, .slice none 0 0] 24)
  have x1 := Blk.new (w.alloc (.cells #[.int .i64 p, .int .i64 j, .int .i64 t, .int .i64 h, .int .i64 g, .int .i64 q, .int .i64 s, .int .i64 cp, .slice A n k] 24)) 24 #[.int .i64 0, .int .i64 0, .int .i64 0, .int .i64 0, .int .i64 0, .int .i64 0, .int .i64 0, .int .i64 0, .slice none 0 0]
  rw [World.size_alloc] at x1
  have HC := Lib.hid (pclone_any l n hn A k B ((w.alloc (.cells #[.int .i64 p, .int .i64 j, .int .i64 t, .int .i64 h, .int .i64 g, .int .i64 q, .int .i64 s, .int .i64 cp, .slice A n k] 24)).alloc (.cells #[.int .i64 0, .int .i64 0, .int .i64 0, .int .i64 0, .int .i64 0, .int .i64 0, .int .i64 0, .int .i64 0, .slice none 0 0] 24)) (hr.below (B0.mono hB)) (by omega) (by simp; omega))
  have HB0 := Lib.hid B0
  have X := Lib.hid (And.intro x0 x1)
  clear hr B0 x0 x1
  go_enter Tryd.func27, Tryd.ntmps27
  go_wp2_with fail
  refine HC.out.mono ?_
  rintro e w1 ⟨A1, c1, rfl, h1, h2, h3, hb, hav⟩
  simp only [World.size_alloc] at hav
  have y0 := X.out.1.below hb X.out.1.lt
  have y1 := X.out.2.below hb X.out.2.lt
  have HA0 := Lib.hid (show ∀ a, A1 = some a → w.heap.size ≠ a.block from fun a ha => by have := hav a ha; omega)
  have HA1 := Lib.hid (show ∀ a, A1 = some a → w.heap.size + 1 ≠ a.block from fun a ha => by have := hav a ha; omega)
  have HAV := Lib.hid (show ∀ a, A1 = some a → w.heap.size ≤ a.block from fun a ha => by have := hav a ha; omega)
  have BB := bnext HB0.out hb
  have HR := Lib.hid h3
  clear hav h3 hb
  have ce0 := (y0).cell 0
  have ce1 := (y0).cell 1
  have ce2 := (y0).cell 2
  have ce3 := (y0).cell 3
  have ce4 := (y0).cell 4
  have ce5 := (y0).cell 5
  have ce6 := (y0).cell 6
  have ce7 := (y0).cell 7
  have ce8 := (y0).cell 8
  simp only [List.getElem?_toArray, List.getElem?_cons_zero, List.getElem?_cons_succ] at ce0 ce1 ce2 ce3 ce4 ce5 ce6 ce7 ce8
  have mm0 := (y1).cell 0
  have mm1 := (y1).cell 1
  have mm2 := (y1).cell 2
  have mm3 := (y1).cell 3
  have mm4 := (y1).cell 4
  have mm5 := (y1).cell 5
  have mm6 := (y1).cell 6
  have mm7 := (y1).cell 7
  have mm8 := (y1).cell 8
  simp only [List.getElem?_toArray, List.getElem?_cons_zero, List.getElem?_cons_succ] at mm0 mm1 mm2 mm3 mm4 mm5 mm6 mm7 mm8
  have gg0 := y1.frozen 0
  have gg1 := y1.frozen 1
  have gg2 := y1.frozen 2
  have gg3 := y1.frozen 3
  have gg4 := y1.frozen 4
  have gg5 := y1.frozen 5
  have gg6 := y1.frozen 6
  have gg7 := y1.frozen 7
  have gg8 := y1.frozen 8
  have k8 := y0.frozen 8
  have u0 := y0.set 8 (.slice A1 n c1)
  simp only [List.setIfInBounds_toArray, List.set_cons_zero, List.set_cons_succ] at u0
  have u1 := y1.far (p := ⟨w.heap.size, 8, none⟩) (by show ¬ w.heap.size + 1 = w.heap.size; omega) (.slice A1 n c1)
  have d0 := (u0).cell 0
  have d1 := (u0).cell 1
  have d2 := (u0).cell 2
  have d3 := (u0).cell 3
  have d4 := (u0).cell 4
  have d5 := (u0).cell 5
  have d6 := (u0).cell 6
  have d7 := (u0).cell 7
  have d8 := (u0).cell 8
  simp only [List.getElem?_toArray, List.getElem?_cons_zero, List.getElem?_cons_succ] at d0 d1 d2 d3 d4 d5 d6 d7 d8
  have m0 := (u1).cell 0
  have m1 := (u1).cell 1
  have m2 := (u1).cell 2
  have m3 := (u1).cell 3
  have m4 := (u1).cell 4
  have m5 := (u1).cell 5
  have m6 := (u1).cell 6
  have m7 := (u1).cell 7
  have m8 := (u1).cell 8
  simp only [List.getElem?_toArray, List.getElem?_cons_zero, List.getElem?_cons_succ] at m0 m1 m2 m3 m4 m5 m6 m7 m8
  have f0 := u1.frozen 0
  have f1 := u1.frozen 1
  have f2 := u1.frozen 2
  have f3 := u1.frozen 3
  have f4 := u1.frozen 4
  have f5 := u1.frozen 5
  have f6 := u1.frozen 6
  have f7 := u1.frozen 7
  have f8 := u1.frozen 8
  clear y0 y1 u0
  go_wp2_with fail
  refine bodyPost_ret (v := .agg #[.int .i64 p, .int .i64 j, .int .i64 t, .int .i64 h, .int .i64 g, .int .i64 q, .int .i64 s, .int .i64 cp, .slice A1 n c1]) (by simp [results, Tryd.results27, go_sem, mm0, mm1, mm2, mm3, mm4, mm5, mm6, mm7, mm8, ce0, ce1, ce2, ce3, ce4, ce5, ce6, ce7, ce8]) rfl ?_
  refine ⟨A1, c1, rfl, h1, h2, ?_, by go_grown, HAV.out⟩
  simp only [World.size_setCell]
  exact (((((((((HR.out.off HA0.out _).off HA1.out _).off HA1.out _).off HA1.out _).off HA1.out _).off HA1.out _).off HA1.out _).off HA1.out _).off HA1.out _).off HA1.out _
end Go.Proofs.YtcinggnhfgkahaaDoor
