/- The chapter's rows of packet (works): true. -/
import Derived.Test.YtpadlillbofpnaaDoorPk9
import Derived.Test.YtpadlillbofpnaaDoorNum
namespace Go.Proofs.YtpadlillbofpnaaDoor
set_option linter.unusedVariables false
set_option linter.unusedSimpArgs false
open Go.RowKit
set_option maxRecDepth 100000
theorem rd_blk {w : World} {g : Nat} {t : TypeId} {cs : Array Value} {xs : List Value} (h : Blk w g t cs) (hx : cs = xs.toArray) : Rd w (g + 1) (some ⟨g, 0, none⟩) xs := fun _ =>
  ⟨g, 0, rfl, by omega, fun i u hu => by
    have := h.cell i
    rw [hx, List.getElem?_toArray, hu] at this
    rw [Nat.zero_add]; exact this⟩
def encW : List UInt8 := [1, 2, 0, 0, 0, 0, 0, 0, 0, 0, 0, 0, 0, 0, 0, 0, 0, 0, 0, 0, 0, 0, 0, 16]
theorem enc_c (A : Option Addr) (c : Nat) (W : World) (h : WidthsAt W) (hr : Rd W W.heap.size A [.int .i64 0, .int .i64 0, .int .u32 0, .int .u32 0, .int .u32 0, .int .u32 16]) :
    Calls Tryd.prog 14 #[.agg #[.int .i64 1, .slice A 1 c]] W (GivesB encW 0 W) := by
  have := encode_any 1 [erAll] 1 c rfl A W hr (by intro e he; simp at he; subst he; simp [fitR, erAll]) h (by omega)
  rw [show encB 1 [erAll] = encW by decide +kernel, show encE 1 [erAll] = 0 by decide +kernel] at this
  exact this
theorem chk_c (l : List UInt8) (n : Nat) (hn : l.length = n) (k : Int) (hk : decE l = k) (A : Option Addr) (c : Nat) (W : World) (h : WidthsAt W) (hr : Rd W W.heap.size A (l.map b8)) (hnc : n ≤ c ∧ c ≤ 9223372036854775807) :
    Calls Tryd.prog 13 #[.slice A n c] W fun e w' => e = .returned (.int .i64 k) ∧ Below W.heap.size W w' := by
  have := pcheck_any l n hn A c W.heap.size W h hr hnc.1 hnc.2 (Nat.le_refl _)
  rw [hk] at this
  exact this
theorem dec_c (A : Option Addr) (W : World) (h : WidthsAt W) (hr : Rd W W.heap.size A (([2, 2, 0, 0] : List UInt8).map b8)) :
    Calls Tryd.prog 9 #[.slice A 4 4] W fun e w' => (∃ A' c', e = .returned (.tuple #[.agg #[.int .i64 2, .slice A' 0 c'], .int .i64 0])) ∧ Below W.heap.size W w' := by
  refine (decode_any [2, 2, 0, 0] 4 rfl A 4 W.heap.size W h hr (by omega) (by omega) (Nat.le_refl _)).mono ?_
  rintro e w' ⟨A', c', rfl, h1, h2, h3, h4, _⟩
  refine ⟨⟨A', c', ?_⟩, h4⟩
  rw [show dcmd [2, 2, 0, 0] = 2 by decide +kernel, show (desL [2, 2, 0, 0]).length = 0 by decide +kernel, show decE [2, 2, 0, 0] = 0 by decide +kernel]
def e26 : List Er := List.replicate 26 ⟨0, 0, 0, 0, 0, 0⟩
theorem cut_c (A : Option Addr) (W : World) (h : WidthsAt W) (hr : Rd W W.heap.size A (erC e26)) :
    Calls Tryd.prog 15 #[.int .i64 2, .slice A 26 26] W fun e w' => (∃ gb go A0 c0 A1 c1 c', e = .returned (.tuple #[.slice (some ⟨gb, go, none⟩) 2 c', .int .i64 0]) ∧ 2 ≤ c' ∧
      w'.cell? ⟨gb, go, none⟩ = some (.int .i64 2) ∧ w'.cell? ⟨gb, go + 1, none⟩ = some (.slice A0 25 c0) ∧ w'.cell? ⟨gb, go + 2, none⟩ = some (.int .i64 2) ∧ w'.cell? ⟨gb, go + 3, none⟩ = some (.slice A1 1 c1)) ∧ Below W.heap.size W w' := by
  refine (cut_all 2 e26 26 26 rfl A W hr (by intro e he; rw [List.eq_of_mem_replicate he]; simp [fitR]) h (by omega) (by omega)).mono ?_
  rintro e w' ⟨A', ds, c', rfl, h1, h2, h3, h4, h5, h6⟩
  rw [show cutN 2 e26 = 2 by decide +kernel] at h1
  rw [show cutE 2 e26 = 0 by decide +kernel]
  match ds, h1 with
  | [d0, d1], _ =>
    obtain ⟨n0, _⟩ := h5 0 d0 rfl
    obtain ⟨n1, _⟩ := h5 1 d1 rfl
    rw [show (pcL e26 0).length = 25 by decide +kernel] at n0
    rw [show (pcL e26 1).length = 1 by decide +kernel] at n1
    obtain ⟨b, off, rfl, _, hc⟩ := h4 (by simp [dgC, dgL])
    refine ⟨⟨b, off, d0.A, d0.c, d1.A, d1.c, c', rfl, h2, hc 0 _ rfl, ?_, hc 2 _ rfl, ?_⟩, h6⟩
    · have := hc 1 (.slice d0.A d0.n d0.c) rfl
      rw [n0] at this; exact this
    · have := hc 3 (.slice d1.A d1.n d1.c) rfl
      rw [n1] at this; exact this
set_option maxHeartbeats 4000000 in
theorem works5_any (w : World) (hw : WidthsAt w) :
    Calls Tryd.prog 8 #[] w fun e w' => e = .returned (.bool true) ∧ Below w.heap.size w w' := by
  have HW := Lib.hid hw
  clear hw
  go_enter Tryd.func8, Tryd.ntmps8
  go_wp2_with fail
  refine (enc_c _ _ _ (HW.out.below (balloc (Below.refl _ _) _)) ?_).mono ?_
  · exact (Rd.new w _ _).more (by simp)
  rintro e w1 ⟨A1, c1, rfl, k1, k2, k3, k4⟩
  obtain ⟨b1, off1, rfl, hb1, hc1⟩ := k3 (by simp [encW])
  have b1' : Below w.heap.size w w1 := bnext (balloc (Below.refl _ _) _) k4
  have hcv : (convert 22 9 (.slice (some ⟨b1, off1, none⟩) 6 c1)).run Tryd.prog w1 = .ok (.string (str [1, 2, 0, 0, 0, 0])) w1 := by
    have hr6 : Rd w1 w1.heap.size (some ⟨b1, off1, none⟩) (([1, 2, 0, 0, 0, 0] : List UInt8).map b8) := by
      have h0 : Rd w1 w1.heap.size (some ⟨b1, off1, none⟩) ((([1, 2, 0, 0, 0, 0] : List UInt8) ++ encW.drop 6).map b8) := k3
      rw [List.map_append] at h0
      exact h0.pre
    exact conv_rd 22 9 5 Tryd.underlying22 Tryd.underlying5 Tryd.underlying9 c1 hr6
  have hse : (str [1, 2, 0, 0, 0, 0]).toList = [1, 2, 0, 0, 0, 0] := str_toList _
  have hc6 : 6 ≤ c1 := by simp [encW] at k1; omega
  have hL : encW.length = 24 := rfl
  rw [hL]
  have HB := Lib.hid b1'
  clear k4 k3 hc1 hL b1'
  go_wp2_with (go_at_call 12; refine (num_any _ _).mono ?_; rintro e w' ⟨rfl, rfl⟩)
  have bA : Below w1.heap.size w1 ((((((w1.alloc (.cells #[.int .u8 1, .int .u8 2, .int .u8 0] 5)).alloc (.cells #[.int .u8 1, .int .u8 2, .int .u8 0, .int .u8 0, .int .u8 5] 5)).alloc (.cells #[.int .u8 1, .int .u8 1, .int .u8 0, .int .u8 0] 5)).alloc (.cells #[.int .u8 3, .int .u8 2, .int .u8 0, .int .u8 0] 5)).alloc (.cells #[.int .u8 1, .int .u8 2, .int .u8 0, .int .u8 1] 5)).alloc (.cells #[.slice (some ⟨w1.heap.size, 0, none⟩) 3 3, .slice (some ⟨w1.heap.size + 1, 0, none⟩) 5 5, .slice (some ⟨w1.heap.size + 1 + 1, 0, none⟩) 4 4, .slice (some ⟨w1.heap.size + 1 + 1 + 1, 0, none⟩) 4 4, .slice (some ⟨w1.heap.size + 1 + 1 + 1 + 1, 0, none⟩) 4 4] 22)) := balloc (balloc (balloc (balloc (balloc (balloc (Below.refl _ _) _) _) _) _) _) _
  have r0 := Blk.new w1 5 #[.int .u8 1, .int .u8 2, .int .u8 0]
  replace r0 := r0.alloc (.cells #[.int .u8 1, .int .u8 2, .int .u8 0, .int .u8 0, .int .u8 5] 5)
  replace r0 := r0.alloc (.cells #[.int .u8 1, .int .u8 1, .int .u8 0, .int .u8 0] 5)
  replace r0 := r0.alloc (.cells #[.int .u8 3, .int .u8 2, .int .u8 0, .int .u8 0] 5)
  replace r0 := r0.alloc (.cells #[.int .u8 1, .int .u8 2, .int .u8 0, .int .u8 1] 5)
  replace r0 := r0.alloc (.cells #[.slice (some ⟨w1.heap.size, 0, none⟩) 3 3, .slice (some ⟨w1.heap.size + 1, 0, none⟩) 5 5, .slice (some ⟨w1.heap.size + 1 + 1, 0, none⟩) 4 4, .slice (some ⟨w1.heap.size + 1 + 1 + 1, 0, none⟩) 4 4, .slice (some ⟨w1.heap.size + 1 + 1 + 1 + 1, 0, none⟩) 4 4] 22)
  have r1 := Blk.new (w1.alloc (.cells #[.int .u8 1, .int .u8 2, .int .u8 0] 5)) 5 #[.int .u8 1, .int .u8 2, .int .u8 0, .int .u8 0, .int .u8 5]
  replace r1 := r1.alloc (.cells #[.int .u8 1, .int .u8 1, .int .u8 0, .int .u8 0] 5)
  replace r1 := r1.alloc (.cells #[.int .u8 3, .int .u8 2, .int .u8 0, .int .u8 0] 5)
  replace r1 := r1.alloc (.cells #[.int .u8 1, .int .u8 2, .int .u8 0, .int .u8 1] 5)
  replace r1 := r1.alloc (.cells #[.slice (some ⟨w1.heap.size, 0, none⟩) 3 3, .slice (some ⟨w1.heap.size + 1, 0, none⟩) 5 5, .slice (some ⟨w1.heap.size + 1 + 1, 0, none⟩) 4 4, .slice (some ⟨w1.heap.size + 1 + 1 + 1, 0, none⟩) 4 4, .slice (some ⟨w1.heap.size + 1 + 1 + 1 + 1, 0, none⟩) 4 4] 22)
  have r2 := Blk.new ((w1.alloc (.cells #[.int .u8 1, .int .u8 2, .int .u8 0] 5)).alloc (.cells #[.int .u8 1, .int .u8 2, .int .u8 0, .int .u8 0, .int .u8 5] 5)) 5 #[.int .u8 1, .int .u8 1, .int .u8 0, .int .u8 0]
  replace r2 := r2.alloc (.cells #[.int .u8 3, .int .u8 2, .int .u8 0, .int .u8 0] 5)
  replace r2 := r2.alloc (.cells #[.int .u8 1, .int .u8 2, .int .u8 0, .int .u8 1] 5)
  replace r2 := r2.alloc (.cells #[.slice (some ⟨w1.heap.size, 0, none⟩) 3 3, .slice (some ⟨w1.heap.size + 1, 0, none⟩) 5 5, .slice (some ⟨w1.heap.size + 1 + 1, 0, none⟩) 4 4, .slice (some ⟨w1.heap.size + 1 + 1 + 1, 0, none⟩) 4 4, .slice (some ⟨w1.heap.size + 1 + 1 + 1 + 1, 0, none⟩) 4 4] 22)
  have r3 := Blk.new (((w1.alloc (.cells #[.int .u8 1, .int .u8 2, .int .u8 0] 5)).alloc (.cells #[.int .u8 1, .int .u8 2, .int .u8 0, .int .u8 0, .int .u8 5] 5)).alloc (.cells #[.int .u8 1, .int .u8 1, .int .u8 0, .int .u8 0] 5)) 5 #[.int .u8 3, .int .u8 2, .int .u8 0, .int .u8 0]
  replace r3 := r3.alloc (.cells #[.int .u8 1, .int .u8 2, .int .u8 0, .int .u8 1] 5)
  replace r3 := r3.alloc (.cells #[.slice (some ⟨w1.heap.size, 0, none⟩) 3 3, .slice (some ⟨w1.heap.size + 1, 0, none⟩) 5 5, .slice (some ⟨w1.heap.size + 1 + 1, 0, none⟩) 4 4, .slice (some ⟨w1.heap.size + 1 + 1 + 1, 0, none⟩) 4 4, .slice (some ⟨w1.heap.size + 1 + 1 + 1 + 1, 0, none⟩) 4 4] 22)
  have r4 := Blk.new ((((w1.alloc (.cells #[.int .u8 1, .int .u8 2, .int .u8 0] 5)).alloc (.cells #[.int .u8 1, .int .u8 2, .int .u8 0, .int .u8 0, .int .u8 5] 5)).alloc (.cells #[.int .u8 1, .int .u8 1, .int .u8 0, .int .u8 0] 5)).alloc (.cells #[.int .u8 3, .int .u8 2, .int .u8 0, .int .u8 0] 5)) 5 #[.int .u8 1, .int .u8 2, .int .u8 0, .int .u8 1]
  replace r4 := r4.alloc (.cells #[.slice (some ⟨w1.heap.size, 0, none⟩) 3 3, .slice (some ⟨w1.heap.size + 1, 0, none⟩) 5 5, .slice (some ⟨w1.heap.size + 1 + 1, 0, none⟩) 4 4, .slice (some ⟨w1.heap.size + 1 + 1 + 1, 0, none⟩) 4 4, .slice (some ⟨w1.heap.size + 1 + 1 + 1 + 1, 0, none⟩) 4 4] 22)
  have r5 := Blk.new (((((w1.alloc (.cells #[.int .u8 1, .int .u8 2, .int .u8 0] 5)).alloc (.cells #[.int .u8 1, .int .u8 2, .int .u8 0, .int .u8 0, .int .u8 5] 5)).alloc (.cells #[.int .u8 1, .int .u8 1, .int .u8 0, .int .u8 0] 5)).alloc (.cells #[.int .u8 3, .int .u8 2, .int .u8 0, .int .u8 0] 5)).alloc (.cells #[.int .u8 1, .int .u8 2, .int .u8 0, .int .u8 1] 5)) 22 #[.slice (some ⟨w1.heap.size, 0, none⟩) 3 3, .slice (some ⟨w1.heap.size + 1, 0, none⟩) 5 5, .slice (some ⟨w1.heap.size + 1 + 1, 0, none⟩) 4 4, .slice (some ⟨w1.heap.size + 1 + 1 + 1, 0, none⟩) 4 4, .slice (some ⟨w1.heap.size + 1 + 1 + 1 + 1, 0, none⟩) 4 4]
  simp only [World.size_alloc] at r0 r1 r2 r3 r4 r5
  generalize ((((((w1.alloc (.cells #[.int .u8 1, .int .u8 2, .int .u8 0] 5)).alloc (.cells #[.int .u8 1, .int .u8 2, .int .u8 0, .int .u8 0, .int .u8 5] 5)).alloc (.cells #[.int .u8 1, .int .u8 1, .int .u8 0, .int .u8 0] 5)).alloc (.cells #[.int .u8 3, .int .u8 2, .int .u8 0, .int .u8 0] 5)).alloc (.cells #[.int .u8 1, .int .u8 2, .int .u8 0, .int .u8 1] 5)).alloc (.cells #[.slice (some ⟨w1.heap.size, 0, none⟩) 3 3, .slice (some ⟨w1.heap.size + 1, 0, none⟩) 5 5, .slice (some ⟨w1.heap.size + 1 + 1, 0, none⟩) 4 4, .slice (some ⟨w1.heap.size + 1 + 1 + 1, 0, none⟩) 4 4, .slice (some ⟨w1.heap.size + 1 + 1 + 1 + 1, 0, none⟩) 4 4] 22)) = w2 at *
  have hsz := bA.size
  have B2 := bnext HB.out bA
  have HB2 := Lib.hid B2
  have C0 := Lib.hid (fun W (hW : Below w2.heap.size w2 W) => chk_c ([1, 2, 0] : List UInt8) 3 rfl 150 (by decide +kernel) _ 3 W (HW.out.below (bnext HB2.out hW)) (((rd_blk (r0.below hW r0.lt) rfl).more (Nat.le_trans (Nat.succ_le_of_lt r0.lt) hW.size))) (by omega))
  have C1 := Lib.hid (fun W (hW : Below w2.heap.size w2 W) => chk_c ([1, 2, 0, 0, 5] : List UInt8) 5 rfl 151 (by decide +kernel) _ 5 W (HW.out.below (bnext HB2.out hW)) (((rd_blk (r1.below hW r1.lt) rfl).more (Nat.le_trans (Nat.succ_le_of_lt r1.lt) hW.size))) (by omega))
  have C2 := Lib.hid (fun W (hW : Below w2.heap.size w2 W) => chk_c ([1, 1, 0, 0] : List UInt8) 4 rfl 152 (by decide +kernel) _ 4 W (HW.out.below (bnext HB2.out hW)) (((rd_blk (r2.below hW r2.lt) rfl).more (Nat.le_trans (Nat.succ_le_of_lt r2.lt) hW.size))) (by omega))
  have C3 := Lib.hid (fun W (hW : Below w2.heap.size w2 W) => chk_c ([3, 2, 0, 0] : List UInt8) 4 rfl 153 (by decide +kernel) _ 4 W (HW.out.below (bnext HB2.out hW)) (((rd_blk (r3.below hW r3.lt) rfl).more (Nat.le_trans (Nat.succ_le_of_lt r3.lt) hW.size))) (by omega))
  have C4 := Lib.hid (fun W (hW : Below w2.heap.size w2 W) => chk_c ([1, 2, 0, 1] : List UInt8) 4 rfl 154 (by decide +kernel) _ 4 W (HW.out.below (bnext HB2.out hW)) (((rd_blk (r4.below hW r4.lt) rfl).more (Nat.le_trans (Nat.succ_le_of_lt r4.lt) hW.size))) (by omega))
  have H5 := Lib.hid r5
  clear r0 r1 r2 r3 r4 r5 bA B2
  go_loopw [4] (fun i wr => ∃ j : Nat, j ≤ 5 ∧ i = .int .i64 j ∧ Below w2.heap.size w2 wr) (fun i _ => 5 - (intOf i).toNat)
  case atStart => exact ⟨0, by omega, rfl, Below.refl _ _⟩
  case round =>
    obtain ⟨j, hj, rfl, hb⟩ := hrel
    have HBR := Lib.hid hb
    have z := H5.out.below hb H5.out.lt
    clear hb
    obtain rfl | rfl | rfl | rfl | rfl | rfl : j = 0 ∨ j = 1 ∨ j = 2 ∨ j = 3 ∨ j = 4 ∨ j = 5 := by omega
    · have q := z.cell 0
      simp only [List.getElem?_toArray, List.getElem?_cons_zero, List.getElem?_cons_succ] at q
      clear z
      go_wp2_with (first
        | (go_at_call 13; refine (C0.out _ HBR.out).mono ?_; rintro e w3 ⟨rfl, b3⟩; have HB3 := Lib.hid (bnext HBR.out b3); clear b3)
        | (go_at_call 12; refine (num_any _ _).mono ?_; rintro e w' ⟨rfl, rfl⟩))
      refine ⟨⟨1, by omega, rfl, HB3.out⟩, by simp [intOf]⟩
    · have q := z.cell 1
      simp only [List.getElem?_toArray, List.getElem?_cons_zero, List.getElem?_cons_succ] at q
      clear z
      go_wp2_with (first
        | (go_at_call 13; refine (C1.out _ HBR.out).mono ?_; rintro e w3 ⟨rfl, b3⟩; have HB3 := Lib.hid (bnext HBR.out b3); clear b3)
        | (go_at_call 12; refine (num_any _ _).mono ?_; rintro e w' ⟨rfl, rfl⟩))
      refine ⟨⟨2, by omega, rfl, HB3.out⟩, by simp [intOf]⟩
    · have q := z.cell 2
      simp only [List.getElem?_toArray, List.getElem?_cons_zero, List.getElem?_cons_succ] at q
      clear z
      go_wp2_with (first
        | (go_at_call 13; refine (C2.out _ HBR.out).mono ?_; rintro e w3 ⟨rfl, b3⟩; have HB3 := Lib.hid (bnext HBR.out b3); clear b3)
        | (go_at_call 12; refine (num_any _ _).mono ?_; rintro e w' ⟨rfl, rfl⟩))
      refine ⟨⟨3, by omega, rfl, HB3.out⟩, by simp [intOf]⟩
    · have q := z.cell 3
      simp only [List.getElem?_toArray, List.getElem?_cons_zero, List.getElem?_cons_succ] at q
      clear z
      go_wp2_with (first
        | (go_at_call 13; refine (C3.out _ HBR.out).mono ?_; rintro e w3 ⟨rfl, b3⟩; have HB3 := Lib.hid (bnext HBR.out b3); clear b3)
        | (go_at_call 12; refine (num_any _ _).mono ?_; rintro e w' ⟨rfl, rfl⟩))
      refine ⟨⟨4, by omega, rfl, HB3.out⟩, by simp [intOf]⟩
    · have q := z.cell 4
      simp only [List.getElem?_toArray, List.getElem?_cons_zero, List.getElem?_cons_succ] at q
      clear z
      go_wp2_with (first
        | (go_at_call 13; refine (C4.out _ HBR.out).mono ?_; rintro e w3 ⟨rfl, b3⟩; have HB3 := Lib.hid (bnext HBR.out b3); clear b3)
        | (go_at_call 12; refine (num_any _ _).mono ?_; rintro e w' ⟨rfl, rfl⟩))
      refine ⟨⟨5, by omega, rfl, HB3.out⟩, by simp [intOf]⟩
    · clear z C0 C1 C2 C3 C4 H5
      go_wp2_with fail
      refine (dec_c _ _ (HW.out.below (balloc (bnext HB2.out HBR.out) _)) ?_).mono ?_
      · exact (Rd.new wr _ _).more (by simp)
      rintro e w3 ⟨⟨A3, c3, rfl⟩, b3⟩
      have B3 := Lib.hid (bnext (balloc (bnext HB2.out HBR.out) _) b3)
      have hmk : ∀ w, (Instr.makeSlice 25 (.int .i64 26) (.int .i64 26)).run Tryd.prog w = .ok (.slice (some ⟨w.heap.size, 0, none⟩) 26 26) (w.alloc (.cells (erC e26).toArray 55)) := fun _ => by kernel_rfl
      clear b3
      go_wp2_with fail
      obtain ⟨w4, hw4⟩ : ∃ w4, w4 = w3.alloc (.cells #[.int .i64 2, .slice A3 0 c3] 27) := ⟨_, rfl⟩
      have X := Blk.new w3 27 #[.int .i64 2, .slice A3 0 c3]
      have B4 : Below w.heap.size w w4 := by rw [hw4]; exact balloc B3.out _
      have hs4 : w3.heap.size + 1 = w4.heap.size := by rw [hw4]; simp
      rw [← hw4] at X ⊢
      rw [hs4]
      have XH := Lib.hid X
      have B4H := Lib.hid B4
      clear hmk hw4 X B4
      refine (cut_c _ _ (HW.out.below (balloc B4H.out _)) ?_).mono ?_
      · exact (Rd.new w4 _ _).more (by simp)
      rintro e w5 ⟨⟨gb, go, A0, c0, A1, c1', c', rfl, y0, y1, y2, y3, y4⟩, b5⟩
      have B5 := Lib.hid (bnext (balloc B4H.out _) b5)
      have x5 := XH.out.below ((balloc (Below.refl _ _) _).trans (b5.mono (by simp))) XH.out.lt
      have x0 := x5.cell 0
      have x1 := x5.cell 1
      simp only [List.getElem?_toArray, List.getElem?_cons_zero, List.getElem?_cons_succ] at x0 x1
      clear b5 x5
      go_wp2_with (go_at_call 12; refine (num_any _ _).mono ?_; rintro e w' ⟨rfl, rfl⟩)
      go_ret
      exact ⟨rfl, B5.out⟩
end Go.Proofs.YtpadlillbofpnaaDoor
