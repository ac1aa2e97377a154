/- slices.Clone of prefixes and config.Copy once more: what a caller needs who writes into the copy. -/
import Derived.Test.YtcinggnhfgkahaaDoorCfgCp
namespace Go.Proofs.YtcinggnhfgkahaaDoor
set_option linter.unusedVariables false
set_option linter.unusedSimpArgs false
open Go.RowKit
set_option maxRecDepth 100000
/-- a slice's cells are a block that is known, from its head on -/
def Mine (w : World) (A : Option Addr) (n : Nat) : Prop := ∀ a, A = some a → ∃ e cur, a = ⟨a.block, 0, none⟩ ∧ Blk w a.block e cur ∧ n * 2 ≤ cur.size
theorem Mine.far {w : World} {A : Option Addr} {n : Nat} (h : Mine w A n) {g i : Nat} (hp : ∀ a, A = some a → g ≠ a.block) (u : Value) : Mine (w.setCell ⟨g, i, none⟩ u) A n := fun a ha => by
  obtain ⟨e, cur, h1, h2, h3⟩ := h a ha
  exact ⟨e, cur, h1, h2.far (fun h => hp a ha h.symm) u, h3⟩
theorem Mine.put {w : World} {b n : Nat} (h : Mine w (some ⟨b, 0, none⟩) n) (i : Nat) (u : Value) : Mine (w.setCell ⟨b, i, none⟩ u) (some ⟨b, 0, none⟩) n := fun a ha => by
  obtain ⟨e, cur, h1, h2, h3⟩ := h a ha
  cases ha
  exact ⟨e, _, h1, h2.set i u, by simpa using h3⟩
theorem Mine.below {w w' : World} {A : Option Addr} {n : Nat} (h : Mine w A n) (hb : Below w.heap.size w w') : Mine w' A n := fun a ha => by
  obtain ⟨e, cur, h1, h2, h3⟩ := h a ha
  exact ⟨e, cur, h1, h2.below hb h2.lt, h3⟩
theorem mine_own {w : World} {base n : Nat} {e : TypeId} {v : Value} {xs : List Value} (h : w.ownsRow base e 2 v n xs) : ∀ A c, v = .slice A n c → Mine w A n := by
  rintro A c rfl a ha
  rcases h.2 with ⟨h1, h0⟩ | ⟨g, cap, cur, h1, hg, h2, hc, hm, h3, _⟩
  · injection h1 with h1; rw [h1] at ha; cases ha
  · injection h1 with h1
    rw [h1] at ha
    cases ha
    exact ⟨e, cur, rfl, h2, by omega⟩
set_option maxHeartbeats 400000 in
theorem pclone_own (l : List (Nat × Int)) (n : Nat) (hn : l.length = n) (A : Option Addr) (c B : Nat) (w : World) (h : Rd w B A (plC l)) (hl : n ≤ 1048576) (hB : B ≤ w.heap.size) :
    Calls Tryd.prog 33 #[.slice A n c] w fun e w' => ∃ A1 c1, e = .returned (.slice A1 n c1) ∧ n ≤ c1 ∧ c1 ≤ maxLen ∧ Rd w' w'.heap.size A1 (plC l) ∧ Below w.heap.size w w' ∧ (∀ a, A1 = some a → w.heap.size ≤ a.block) ∧ Mine w' A1 n := by
  obtain ⟨i0, hi0, hz0, hz1, hz2⟩ := info_parts pfx_info
  have HN := Lib.hid hn
  clear hn
  have hnil := fun w => Lib.run_eql_slice_nil (P := Tryd.prog) w 22 28 A n c 0 0 Tryd.underlying22
  cases A with
  | none =>
    have h0 : l = [] := by
      rcases Nat.eq_zero_or_pos (plC l).length with h0 | h0
      · rw [plC_len] at h0; exact List.eq_nil_of_length_eq_zero (by omega)
      · obtain ⟨_, _, hA, _⟩ := h h0; cases hA
    subst h0
    have hn0 := HN.out
    simp at hn0
    subst hn0
    go_enter Tryd.func33, Tryd.ntmps33
    go_wp2
    go_ret
    exact ⟨none, 0, rfl, by simp, by simp, Rd.nil, Below.refl _ _, by simp, fun a h => by cases h⟩
  | some a =>
    go_enter Tryd.func33, Tryd.ntmps33
    go_wp2_with (at_builtin; refine wpList_append_rd rfl (.tmp 5) (.tmp 6) _ rfl w.heap.size 28 i0 _ 2 16 Tryd.underlying22 hi0 hz0 hz1 hz2 rfl (by omega) (.slice (some ⟨w.heap.size, 0, none⟩) 0 0) 0 [] rfl (World.ownsRow_lit w #[] 0 (Nat.le_refl _) (by simp [maxLen]) (by simp)) n c (plC l) rfl (by rw [plC_len, HN.out]) (h.alloc hB _) (plC_one l) (by simp only [maxLen]; omega) (by omega) (by simp) ?_; intro v1 w1 ho1 hg1 ha1)
    go_ret
    simp only [Nat.zero_add, List.nil_append] at ho1
    have hM := mine_own ho1
    obtain ⟨A1, c1, rfl, h1, h2, h3, h4⟩ := own_row ho1
    exact ⟨A1, c1, rfl, h1, h2, h3, ((Below.refl _ _).alloc (Nat.le_refl _) _).grown hg1 (by simp) (by simp [Value.ownBlock]), h4, hM _ _ rfl⟩

set_option maxHeartbeats 1000000 in
theorem ccopy_own (p j t h g q s cp : Int) (A : Option Addr) (n k B : Nat) (l : List (Nat × Int)) (hn : l.length = n) (w : World) (hr : Rd w B A (plC l)) (hB : B ≤ w.heap.size) (hl : n ≤ 1048576) :
    Calls Tryd.prog 27 #[.agg #[.int .i64 p, .int .i64 j, .int .i64 t, .int .i64 h, .int .i64 g, .int .i64 q, .int .i64 s, .int .i64 cp, .slice A n k]] w fun e w' => ∃ A1 c1, e = .returned (.agg #[.int .i64 p, .int .i64 j, .int .i64 t, .int .i64 h, .int .i64 g, .int .i64 q, .int .i64 s, .int .i64 cp, .slice A1 n c1]) ∧ n ≤ c1 ∧ c1 ≤ maxLen ∧ Rd w' w'.heap.size A1 (plC l) ∧ Below w.heap.size w w' ∧ (∀ a, A1 = some a → w.heap.size ≤ a.block) ∧ Mine w' A1 n := by
  have B0 : Below w.heap.size w ((w.alloc (.cells #[.int .i64 p, .int .i64 j, .int .i64 t, .int .i64 h, .int .i64 g, .int .i64 q, .int .i64 s, .int .i64 cp, .slice A n k] 24)).alloc (.cells #[.int .i64 0, .int .i64 0, .int .i64 0, .int .i64 0, .int .i64 0, .int .i64 0, .int .i64 0, .int .i64 0, .slice none 0 0] 24)) := balloc (balloc (Below.refl _ _) _) _
  have x0 := (Blk.new w 24 #[.int .i64 p, .int .i64 j, .int .i64 t, .int .i64 h, .int .i64 g, .int .i64 q, .int .i64 s, .int .i64 cp, .slice A n k]).alloc (.cells #[.int .i64 0, .int .i64 0, .int .i64 0, .int .i64 0, .int .i64 0, .int .i64 0, .int .i64 0, .int .i64 0, .slice none 0 0] 24)
  have x1 := Blk.new (w.alloc (.cells #[.int .i64 p, .int .i64 j, .int .i64 t, .int .i64 h, .int .i64 g, .int .i64 q, .int .i64 s, .int .i64 cp, .slice A n k] 24)) 24 #[.int .i64 0, .int .i64 0, .int .i64 0, .int .i64 0, .int .i64 0, .int .i64 0, .int .i64 0, .int .i64 0, .slice none 0 0]
  rw [World.size_alloc] at x1
  have HC := Lib.hid (pclone_own l n hn A k B ((w.alloc (.cells #[.int .i64 p, .int .i64 j, .int .i64 t, .int .i64 h, .int .i64 g, .int .i64 q, .int .i64 s, .int .i64 cp, .slice A n k] 24)).alloc (.cells #[.int .i64 0, .int .i64 0, .int .i64 0, .int .i64 0, .int .i64 0, .int .i64 0, .int .i64 0, .int .i64 0, .slice none 0 0] 24)) (hr.below (B0.mono hB)) (by omega) (by simp; omega))
  have HB0 := Lib.hid B0
  have X := Lib.hid (And.intro x0 x1)
  clear hr B0 x0 x1
  go_enter Tryd.func27, Tryd.ntmps27
  go_wp2_with fail
  refine HC.out.mono ?_
  rintro e w1 ⟨A1, c1, rfl, h1, h2, h3, hb, hav, hM⟩
  simp only [World.size_alloc] at hav
  have y0 := X.out.1.below hb X.out.1.lt
  have y1 := X.out.2.below hb X.out.2.lt
  have HA0 := Lib.hid (show ∀ a, A1 = some a → w.heap.size ≠ a.block from fun a ha => by have := hav a ha; omega)
  have HA1 := Lib.hid (show ∀ a, A1 = some a → w.heap.size + 1 ≠ a.block from fun a ha => by have := hav a ha; omega)
  have HAV := Lib.hid (show ∀ a, A1 = some a → w.heap.size ≤ a.block from fun a ha => by have := hav a ha; omega)
  have BB := bnext HB0.out hb
  have HR := Lib.hid h3
  have HM := Lib.hid hM
  clear hav h3 hb hM
  have ce0 := (y0).cell 0
  have ce1 := (y0).cell 1
  have ce2 := (y0).cell 2
  have ce3 := (y0).cell 3
  have ce4 := (y0).cell 4
  have ce5 := (y0).cell 5
  have ce6 := (y0).cell 6
  have ce7 := (y0).cell 7
  have ce8 := (y0).cell 8
  simp only [List.getElem?_toArray, List.getElem?_cons_zero, List.getElem?_cons_succ] at ce0 ce1 ce2 ce3 ce4 ce5 ce6 ce7 ce8
  have mm0 := (y1).cell 0
  have mm1 := (y1).cell 1
  have mm2 := (y1).cell 2
  have mm3 := (y1).cell 3
  have mm4 := (y1).cell 4
  have mm5 := (y1).cell 5
  have mm6 := (y1).cell 6
  have mm7 := (y1).cell 7
  have mm8 := (y1).cell 8
  simp only [List.getElem?_toArray, List.getElem?_cons_zero, List.getElem?_cons_succ] at mm0 mm1 mm2 mm3 mm4 mm5 mm6 mm7 mm8
  have gg0 := y1.frozen 0
  have gg1 := y1.frozen 1
  have gg2 := y1.frozen 2
  have gg3 := y1.frozen 3
  have gg4 := y1.frozen 4
  have gg5 := y1.frozen 5
  have gg6 := y1.frozen 6
  have gg7 := y1.frozen 7
  have gg8 := y1.frozen 8
  have k8 := y0.frozen 8
  have u0 := y0.set 8 (.slice A1 n c1)
  simp only [List.setIfInBounds_toArray, List.set_cons_zero, List.set_cons_succ] at u0
  have u1 := y1.far (p := ⟨w.heap.size, 8, none⟩) (by show ¬ w.heap.size + 1 = w.heap.size; omega) (.slice A1 n c1)
  have d0 := (u0).cell 0
  have d1 := (u0).cell 1
  have d2 := (u0).cell 2
  have d3 := (u0).cell 3
  have d4 := (u0).cell 4
  have d5 := (u0).cell 5
  have d6 := (u0).cell 6
  have d7 := (u0).cell 7
  have d8 := (u0).cell 8
  simp only [List.getElem?_toArray, List.getElem?_cons_zero, List.getElem?_cons_succ] at d0 d1 d2 d3 d4 d5 d6 d7 d8
  have m0 := (u1).cell 0
  have m1 := (u1).cell 1
  have m2 := (u1).cell 2
  have m3 := (u1).cell 3
  have m4 := (u1).cell 4
  have m5 := (u1).cell 5
  have m6 := (u1).cell 6
  have m7 := (u1).cell 7
  have m8 := (u1).cell 8
  simp only [List.getElem?_toArray, List.getElem?_cons_zero, List.getElem?_cons_succ] at m0 m1 m2 m3 m4 m5 m6 m7 m8
  have f0 := u1.frozen 0
  have f1 := u1.frozen 1
  have f2 := u1.frozen 2
  have f3 := u1.frozen 3
  have f4 := u1.frozen 4
  have f5 := u1.frozen 5
  have f6 := u1.frozen 6
  have f7 := u1.frozen 7
  have f8 := u1.frozen 8
  clear y0 y1 u0
  go_wp2_with fail
  refine bodyPost_ret (v := .agg #[.int .i64 p, .int .i64 j, .int .i64 t, .int .i64 h, .int .i64 g, .int .i64 q, .int .i64 s, .int .i64 cp, .slice A1 n c1]) (by simp [results, Tryd.results27, go_sem, mm0, mm1, mm2, mm3, mm4, mm5, mm6, mm7, mm8, ce0, ce1, ce2, ce3, ce4, ce5, ce6, ce7, ce8]) rfl ?_
  refine ⟨A1, c1, rfl, h1, h2, ?_, by go_grown, HAV.out, ?_⟩
  · simp only [World.size_setCell]
    exact (((((((((HR.out.off HA0.out _).off HA1.out _).off HA1.out _).off HA1.out _).off HA1.out _).off HA1.out _).off HA1.out _).off HA1.out _).off HA1.out _).off HA1.out _
  · exact (((((((((HM.out.far HA0.out _).far HA1.out _).far HA1.out _).far HA1.out _).far HA1.out _).far HA1.out _).far HA1.out _).far HA1.out _).far HA1.out _).far HA1.out _
end Go.Proofs.YtcinggnhfgkahaaDoor
