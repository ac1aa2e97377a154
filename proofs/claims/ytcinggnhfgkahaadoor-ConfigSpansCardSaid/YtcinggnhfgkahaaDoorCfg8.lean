/- config: Clone, Standard, Owns. -/
import Derived.Test.YtcinggnhfgkahaaDoorCfg7
namespace Go.Proofs.YtcinggnhfgkahaaDoor
set_option linter.unusedVariables false
set_option linter.unusedSimpArgs false
open Go.RowKit
set_option maxRecDepth 100000

theorem pfx_info : (Tryd.prog.info? 28).map (fun i => (i.zero, i.size, i.bytes)) = some (some (.agg #[.int .u32 0, .int .i64 0]), 2, 16) := by kernel_rfl
theorem own_row {w : World} {base : Nat} {e : TypeId} {size n : Nat} {v : Value} {xs : List Value} (h : w.ownsRow base e size v n xs) :
    ∃ A c, v = .slice A n c ∧ n ≤ c ∧ c ≤ maxLen ∧ Rd w w.heap.size A xs ∧ (∀ a, A = some a → base ≤ a.block) := by
  rcases h.2 with ⟨rfl, h0⟩ | ⟨g, cap, cur, rfl, hg, _, hc, hm, _⟩
  · have hx := h.1
    rw [h0] at hx
    obtain rfl : xs = [] := List.eq_nil_of_length_eq_zero (by omega)
    exact ⟨none, 0, by rw [h0], by omega, by simp [maxLen], Rd.nil, by simp⟩
  · exact ⟨_, _, rfl, hc, hm, Rd.of_own h, by simp; exact hg⟩

set_option maxHeartbeats 400000 in
theorem pclone_any (l : List (Nat × Int)) (n : Nat) (hn : l.length = n) (A : Option Addr) (c B : Nat) (w : World) (h : Rd w B A (plC l)) (hl : n ≤ 1048576) (hB : B ≤ w.heap.size) :
    Calls Tryd.prog 33 #[.slice A n c] w fun e w' => ∃ A1 c1, e = .returned (.slice A1 n c1) ∧ n ≤ c1 ∧ c1 ≤ maxLen ∧ Rd w' w'.heap.size A1 (plC l) ∧ Below w.heap.size w w' ∧ (∀ a, A1 = some a → w.heap.size ≤ a.block) := by
  obtain ⟨i0, hi0, hz0, hz1, hz2⟩ := info_parts pfx_info
  have HN := Lib.hid hn
  clear hn
  have hnil := fun w => Lib.run_eql_slice_nil (P := Tryd.prog) w 22 28 A n c 0 0 Tryd.underlying22
  cases A with
  | none =>
    have h0 : l = [] := by
      rcases Nat.eq_zero_or_pos (plC l).length with h0 | h0
      · rw [plC_len] at h0; exact List.eq_nil_of_length_eq_zero (by omega)
      · obtain ⟨_, _, hA, _⟩ := h h0; cases hA
    subst h0
    have hn0 := HN.out
    simp at hn0
    subst hn0
    go_enter Tryd.func33, Tryd.ntmps33
    go_wp2
    go_ret
    exact ⟨none, 0, rfl, by simp, by simp, Rd.nil, Below.refl _ _, by simp⟩
  | some a =>
    go_enter Tryd.func33, Tryd.ntmps33
    go_wp2_with (at_builtin; refine wpList_append_rd rfl (.tmp 5) (.tmp 6) _ rfl w.heap.size 28 i0 _ 2 16 Tryd.underlying22 hi0 hz0 hz1 hz2 rfl (by omega) (.slice (some ⟨w.heap.size, 0, none⟩) 0 0) 0 [] rfl (World.ownsRow_lit w #[] 0 (Nat.le_refl _) (by simp [maxLen]) (by simp)) n c (plC l) rfl (by rw [plC_len, HN.out]) (h.alloc hB _) (plC_one l) (by simp only [maxLen]; omega) (by omega) (by simp) ?_; intro v1 w1 ho1 hg1 ha1)
    go_ret
    simp only [Nat.zero_add, List.nil_append] at ho1
    obtain ⟨A1, c1, rfl, h1, h2, h3, h4⟩ := own_row ho1
    exact ⟨A1, c1, rfl, h1, h2, h3, ((Below.refl _ _).alloc (Nat.le_refl _) _).grown hg1 (by simp) (by simp [Value.ownBlock]), h4⟩

theorem Rd.off {w : World} {B : Nat} {A : Option Addr} {xs : List Value} (h : Rd w B A xs) {g i : Nat} (hp : ∀ a, A = some a → g ≠ a.block) (u : Value) : Rd (w.setCell ⟨g, i, none⟩ u) B A xs := fun h0 => by
  obtain ⟨b, off, e, hb, hc⟩ := h h0
  exact ⟨b, off, e, hb, fun i v hv => (World.cell?_setCell_far w ⟨g, _, none⟩ ⟨b, off + i, none⟩ u (hp ⟨b, off, none⟩ e)).trans (hc i v hv)⟩

set_option maxHeartbeats 400000 in
theorem isOne_any (l : List (Nat × Int)) (n : Nat) (hn : l.length = n) (A : Option Addr) (k B : Nat) (a : Nat) (m : Int) (w : World) (hr : Rd w B A (plC l)) (hB : B ≤ w.heap.size) (hn63 : n ≤ 9223372036854775807) :
    Calls Tryd.prog 36 #[.agg #[.int .u32 a, .int .i64 m], .slice A n k] w fun e w' => e = .returned (.bool (decide ((a, m) ∈ l))) ∧ Below w.heap.size w w' := by
  have HC := Lib.hid (contains_any l n hn A k B a m (w.alloc (.cells #[.int .u32 a, .int .i64 m] 28)) (hr.alloc hB _) (by simp; omega) hn63)
  clear hr hn
  go_enter Tryd.func36, Tryd.ntmps36
  go_wp2_with fail
  refine HC.out.mono ?_
  rintro e w1 ⟨rfl, hb⟩
  go_wp2_with fail
  go_ret
  exact ⟨rfl, bnext (balloc (Below.refl _ _) _) hb⟩

set_option maxHeartbeats 400000 in
theorem owns_any (p j t h g q s cp : Int) (l : List (Nat × Int)) (n : Nat) (hn : l.length = n) (A : Option Addr) (k B : Nat) (a : Nat) (m : Int) (w : World) (hr : Rd w B A (plC l)) (hB : B ≤ w.heap.size) (hn63 : n ≤ 9223372036854775807) :
    Calls Tryd.prog 15 #[.agg #[.int .i64 p, .int .i64 j, .int .i64 t, .int .i64 h, .int .i64 g, .int .i64 q, .int .i64 s, .int .i64 cp, .slice A n k], .agg #[.int .u32 a, .int .i64 m]] w fun e w' => e = .returned (.bool (decide ((a, m) ∈ l))) ∧ Below w.heap.size w w' := by
  have HC := Lib.hid (fun W (hb : Below w.heap.size w W) => isOne_any l n hn A k B a m W (hr.below (hb.mono hB)) (by have := hb.size; omega) hn63)
  clear hr hn
  go_enter Tryd.func15, Tryd.ntmps15
  go_wp2_with fail
  refine (HC.out _ (balloc (balloc (Below.refl _ _) _) _)).mono ?_
  rintro e w1 ⟨rfl, hb⟩
  go_wp2_with fail
  go_ret
  exact ⟨rfl, bnext (balloc (balloc (Below.refl _ _) _) _) hb⟩

set_option maxHeartbeats 1000000 in
theorem standard_ok (l : List (Nat × Int)) (n : Nat) (hn : l.length = n) (A : Option Addr) (k B : Nat) (w : World) (hr : Rd w B A (plC l)) (hB : B ≤ w.heap.size) (hn30 : n ≤ 1000) (hl : ∀ x ∈ l, x.1 < 4294967296) (hw : CapsAt w) (hok : okC 25 10 180 120 120 1 4 256 l = true) :
    Calls Tryd.prog 12 #[.slice A n k] w fun e w' => ∃ A1 c1, e = .returned (.tuple #[.agg #[.int .i64 25, .int .i64 10, .int .i64 180, .int .i64 120, .int .i64 120, .int .i64 1, .int .i64 4, .int .i64 256, .slice A1 n c1], .int .i64 0]) ∧ n ≤ c1 ∧ c1 ≤ maxLen ∧ Rd w' w'.heap.size A1 (plC l) ∧ Below w.heap.size w w' := by
  have B0 : Below w.heap.size w (w.alloc (.cells #[.int .i64 0, .int .i64 0, .int .i64 0, .int .i64 0, .int .i64 0, .int .i64 0, .int .i64 0, .int .i64 0, .slice none 0 0] 24)) := balloc (Below.refl _ _) _
  have x0 := Blk.new w 24 #[.int .i64 0, .int .i64 0, .int .i64 0, .int .i64 0, .int .i64 0, .int .i64 0, .int .i64 0, .int .i64 0, .slice none 0 0]
  have HC := Lib.hid (pclone_any l n hn A k B (w.alloc (.cells #[.int .i64 0, .int .i64 0, .int .i64 0, .int .i64 0, .int .i64 0, .int .i64 0, .int .i64 0, .int .i64 0, .slice none 0 0] 24)) (hr.below (B0.mono hB)) (by omega) (by simp; omega))
  have HK := Lib.hid (fun (A1 : Option Addr) (c1 : Nat) (W : World) (h1 : Rd W W.heap.size A1 (plC l)) (h2 : n ≤ c1) (h3 : c1 ≤ maxLen) (h4 : CapsAt W) => ccheck_any 25 10 180 120 120 1 4 256 A1 n c1 W.heap.size l hn W h1 (Nat.le_refl _) h2 (by unfold maxLen at h3; omega) hl h4)
  rw [hok] at HK
  have HB0 := Lib.hid B0
  have X0 := Lib.hid x0
  have HW := Lib.hid (hw.below B0)
  clear hr hl hw B0 x0 hok
  go_enter Tryd.func12, Tryd.ntmps12
  go_wp2_with fail
  refine HC.out.mono ?_
  rintro e w1 ⟨A1, c1, rfl, h1, h2, h3, hb, hav⟩
  simp only [World.size_alloc] at hav
  have HW2 := Lib.hid (HW.out.below (balloc hb (.cells #[.int .i64 25, .int .i64 10, .int .i64 180, .int .i64 120, .int .i64 120, .int .i64 1, .int .i64 4, .int .i64 256, .slice A1 n c1] 24)))
  go_wp2_with fail
  refine (HK.out A1 c1 _ ((h3.alloc (Nat.le_refl _) (.cells #[.int .i64 25, .int .i64 10, .int .i64 180, .int .i64 120, .int .i64 120, .int .i64 1, .int .i64 4, .int .i64 256, .slice A1 n c1] 24)).more (by simp)) h1 h2 HW2.out).mono ?_
  rintro e w2 ⟨rfl, hb2⟩
  have y0 := ((X0.out.below hb X0.out.lt).alloc (.cells #[.int .i64 25, .int .i64 10, .int .i64 180, .int .i64 120, .int .i64 120, .int .i64 1, .int .i64 4, .int .i64 256, .slice A1 n c1] 24)).below hb2 (by have := (X0.out.below hb X0.out.lt).lt; simp; omega)
  have y1 := (Blk.new w1 24 #[.int .i64 25, .int .i64 10, .int .i64 180, .int .i64 120, .int .i64 120, .int .i64 1, .int .i64 4, .int .i64 256, .slice A1 n c1]).below hb2 (by simp)
  have hne : ¬ w1.heap.size = w.heap.size := by have := (X0.out.below hb X0.out.lt).lt; omega
  have d0 := (y0).cell 0
  have d1 := (y0).cell 1
  have d2 := (y0).cell 2
  have d3 := (y0).cell 3
  have d4 := (y0).cell 4
  have d5 := (y0).cell 5
  have d6 := (y0).cell 6
  have d7 := (y0).cell 7
  have d8 := (y0).cell 8
  simp only [List.getElem?_toArray, List.getElem?_cons_zero, List.getElem?_cons_succ] at d0 d1 d2 d3 d4 d5 d6 d7 d8
  have m0 := (y1).cell 0
  have m1 := (y1).cell 1
  have m2 := (y1).cell 2
  have m3 := (y1).cell 3
  have m4 := (y1).cell 4
  have m5 := (y1).cell 5
  have m6 := (y1).cell 6
  have m7 := (y1).cell 7
  have m8 := (y1).cell 8
  simp only [List.getElem?_toArray, List.getElem?_cons_zero, List.getElem?_cons_succ] at m0 m1 m2 m3 m4 m5 m6 m7 m8
  have f0 := y0.frozen 0
  have f1 := y0.frozen 1
  have f2 := y0.frozen 2
  have f3 := y0.frozen 3
  have f4 := y0.frozen 4
  have f5 := y0.frozen 5
  have f6 := y0.frozen 6
  have f7 := y0.frozen 7
  have f8 := y0.frozen 8
  have hr2 := Lib.hid ((((h3.alloc (Nat.le_refl _) (.cells #[.int .i64 25, .int .i64 10, .int .i64 180, .int .i64 120, .int .i64 120, .int .i64 1, .int .i64 4, .int .i64 256, .slice A1 n c1] 24)).more (by simp)).below hb2).more hb2.size)
  have bz := bnext (balloc (bnext HB0.out hb) (.cells #[.int .i64 25, .int .i64 10, .int .i64 180, .int .i64 120, .int .i64 120, .int .i64 1, .int .i64 4, .int .i64 256, .slice A1 n c1] 24)) hb2
  have HA := Lib.hid (show ∀ a, A1 = some a → w.heap.size ≠ a.block from fun a ha => by have := hav a ha; omega)
  clear hav
  clear hb hb2 h3 y1
  simp only [errC, if_true]
  go_wp2_with fail
  refine bodyPost_ret (v := .tuple #[.agg #[.int .i64 25, .int .i64 10, .int .i64 180, .int .i64 120, .int .i64 120, .int .i64 1, .int .i64 4, .int .i64 256, .slice A1 n c1], .int .i64 0]) (by simp [results, Tryd.results12, go_sem, d0, d1, d2, d3, d4, d5, d6, d7, d8]) rfl ?_
  refine ⟨A1, c1, rfl, h1, h2, ?_, by go_grown⟩
  simp only [World.size_setCell]
  exact ((((((((hr2.out.off HA.out _).off HA.out _).off HA.out _).off HA.out _).off HA.out _).off HA.out _).off HA.out _).off HA.out _).off HA.out _

set_option maxHeartbeats 1000000 in
theorem standard_bad (l : List (Nat × Int)) (n : Nat) (hn : l.length = n) (A : Option Addr) (k B : Nat) (w : World) (hr : Rd w B A (plC l)) (hB : B ≤ w.heap.size) (hn30 : n ≤ 1000) (hl : ∀ x ∈ l, x.1 < 4294967296) (hw : CapsAt w) (hok : okC 25 10 180 120 120 1 4 256 l = false) :
    Calls Tryd.prog 12 #[.slice A n k] w fun e w' => e = .returned (.tuple #[.agg #[.int .i64 0, .int .i64 0, .int .i64 0, .int .i64 0, .int .i64 0, .int .i64 0, .int .i64 0, .int .i64 0, .slice none 0 0], .int .i64 2]) ∧ Below w.heap.size w w' := by
  have B0 : Below w.heap.size w (w.alloc (.cells #[.int .i64 0, .int .i64 0, .int .i64 0, .int .i64 0, .int .i64 0, .int .i64 0, .int .i64 0, .int .i64 0, .slice none 0 0] 24)) := balloc (Below.refl _ _) _
  have x0 := Blk.new w 24 #[.int .i64 0, .int .i64 0, .int .i64 0, .int .i64 0, .int .i64 0, .int .i64 0, .int .i64 0, .int .i64 0, .slice none 0 0]
  have HC := Lib.hid (pclone_any l n hn A k B (w.alloc (.cells #[.int .i64 0, .int .i64 0, .int .i64 0, .int .i64 0, .int .i64 0, .int .i64 0, .int .i64 0, .int .i64 0, .slice none 0 0] 24)) (hr.below (B0.mono hB)) (by omega) (by simp; omega))
  have HK := Lib.hid (fun (A1 : Option Addr) (c1 : Nat) (W : World) (h1 : Rd W W.heap.size A1 (plC l)) (h2 : n ≤ c1) (h3 : c1 ≤ maxLen) (h4 : CapsAt W) => ccheck_any 25 10 180 120 120 1 4 256 A1 n c1 W.heap.size l hn W h1 (Nat.le_refl _) h2 (by unfold maxLen at h3; omega) hl h4)
  rw [hok] at HK
  have HB0 := Lib.hid B0
  have X0 := Lib.hid x0
  have HW := Lib.hid (hw.below B0)
  clear hr hl hw B0 x0 hok
  go_enter Tryd.func12, Tryd.ntmps12
  go_wp2_with fail
  refine HC.out.mono ?_
  rintro e w1 ⟨A1, c1, rfl, h1, h2, h3, hb, hav⟩
  have HW2 := Lib.hid (HW.out.below (balloc hb (.cells #[.int .i64 25, .int .i64 10, .int .i64 180, .int .i64 120, .int .i64 120, .int .i64 1, .int .i64 4, .int .i64 256, .slice A1 n c1] 24)))
  go_wp2_with fail
  refine (HK.out A1 c1 _ ((h3.alloc (Nat.le_refl _) (.cells #[.int .i64 25, .int .i64 10, .int .i64 180, .int .i64 120, .int .i64 120, .int .i64 1, .int .i64 4, .int .i64 256, .slice A1 n c1] 24)).more (by simp)) h1 h2 HW2.out).mono ?_
  rintro e w2 ⟨rfl, hb2⟩
  have y0 := ((X0.out.below hb X0.out.lt).alloc (.cells #[.int .i64 25, .int .i64 10, .int .i64 180, .int .i64 120, .int .i64 120, .int .i64 1, .int .i64 4, .int .i64 256, .slice A1 n c1] 24)).below hb2 (by have := (X0.out.below hb X0.out.lt).lt; simp; omega)
  have d0 := (y0).cell 0
  have d1 := (y0).cell 1
  have d2 := (y0).cell 2
  have d3 := (y0).cell 3
  have d4 := (y0).cell 4
  have d5 := (y0).cell 5
  have d6 := (y0).cell 6
  have d7 := (y0).cell 7
  have d8 := (y0).cell 8
  simp only [List.getElem?_toArray, List.getElem?_cons_zero, List.getElem?_cons_succ] at d0 d1 d2 d3 d4 d5 d6 d7 d8
  have f0 := y0.frozen 0
  have f1 := y0.frozen 1
  have f2 := y0.frozen 2
  have f3 := y0.frozen 3
  have f4 := y0.frozen 4
  have f5 := y0.frozen 5
  have f6 := y0.frozen 6
  have f7 := y0.frozen 7
  have f8 := y0.frozen 8
  have bz := bnext (balloc (bnext HB0.out hb) (.cells #[.int .i64 25, .int .i64 10, .int .i64 180, .int .i64 120, .int .i64 120, .int .i64 1, .int .i64 4, .int .i64 256, .slice A1 n c1] 24)) hb2
  clear hb hb2 h3
  simp only [errC, Bool.false_eq_true, if_false]
  go_wp2_with fail
  refine bodyPost_ret (v := .tuple #[.agg #[.int .i64 0, .int .i64 0, .int .i64 0, .int .i64 0, .int .i64 0, .int .i64 0, .int .i64 0, .int .i64 0, .slice none 0 0], .int .i64 2]) (by simp [results, Tryd.results12, go_sem, d0, d1, d2, d3, d4, d5, d6, d7, d8]) rfl ?_
  exact ⟨rfl, by go_grown⟩
end Go.Proofs.YtcinggnhfgkahaaDoor
