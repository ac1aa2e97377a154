/- The document's flight: Put. -/
import Derived.Test.YtgdkobknjgbdbaaFlR
namespace Go.Proofs.Ytgdkobknjgbdbaa
set_option linter.unusedVariables false
set_option linter.unusedSimpArgs false
open Go.RowKit
set_option maxRecDepth 100000

def errPut (m : Mm) (room n : Nat) : Int := if okM m = false then 2 else if room ≤ n then 3 else 0
theorem okM_not (m : Mm) : okM m = true ↔ (0 ≤ m.link ∧ 0 ≤ m.frm ∧ 0 ≤ m.dst ∧ 0 ≤ m.sent ∧ m.sent ≤ 4611686018427387904) := by simp [okM, okB]

/-- the three ways of the test -/
theorem refput_bad (r : Ml) (room lost : Nat) (n k : Nat) (A : Option Addr) (w : World) (hok : okM r.m = false) :
    Calls Try.prog 40 #[.agg #[.slice A n k, .int .i64 room, .int .i64 lost], .agg (mlA r)] w fun e w' => e = .returned (.tuple #[.agg #[.slice A n k, .int .i64 room, .int .i64 lost], .int .i64 2]) ∧ Below w.heap.size w w' := by
  obtain ⟨⟨lk, fr, ds, sr, l, st⟩, rA, rc⟩ := r
  have hno : ¬ (0 ≤ lk ∧ 0 ≤ fr ∧ 0 ≤ ds ∧ 0 ≤ st ∧ st ≤ 4611686018427387904) := fun h => by rw [(okM_not ⟨lk, fr, ds, sr, l, st⟩).2 h] at hok; cases hok
  simp only [mlA]
  by_cases h1 : lk < 0
  case pos =>
    clear hno hok
    go_enter Try.func40, Try.ntmps40
    go_wp2_with fail
    refine bodyPost_ret (v := .tuple #[.agg #[.slice A n k, .int .i64 room, .int .i64 lost], .int .i64 2]) (by simp [results, Try.results40, go_sem]) rfl ⟨rfl, by go_grown⟩
  by_cases h2 : fr < 0
  case pos =>
    clear hno hok
    go_enter Try.func40, Try.ntmps40
    go_wp2_with fail
    refine bodyPost_ret (v := .tuple #[.agg #[.slice A n k, .int .i64 room, .int .i64 lost], .int .i64 2]) (by simp [results, Try.results40, go_sem]) rfl ⟨rfl, by go_grown⟩
  by_cases h3 : ds < 0
  case pos =>
    clear hno hok
    go_enter Try.func40, Try.ntmps40
    go_wp2_with fail
    refine bodyPost_ret (v := .tuple #[.agg #[.slice A n k, .int .i64 room, .int .i64 lost], .int .i64 2]) (by simp [results, Try.results40, go_sem]) rfl ⟨rfl, by go_grown⟩
  have ht : (decide (0 ≤ st) && decide (st ≤ 4611686018427387904)) = false := by
    rw [Bool.eq_false_iff]
    intro hh
    simp only [Bool.and_eq_true, decide_eq_true_eq] at hh
    exact hno ⟨by omega, by omega, by omega, hh.1, hh.2⟩
  have HT := Lib.hid (fun W => time_any st W)
  rw [ht] at HT
  clear hno hok ht
  go_enter Try.func40, Try.ntmps40
  go_wp2_with (go_at_call 50; refine (HT.out _).mono ?_; rintro e w' ⟨rfl, rfl⟩)
  refine bodyPost_ret (v := .tuple #[.agg #[.slice A n k, .int .i64 room, .int .i64 lost], .int .i64 2]) (by simp [results, Try.results40, go_sem]) rfl ⟨rfl, by go_grown⟩

theorem refput_full (r : Ml) (room lost : Nat) (n k : Nat) (A : Option Addr) (w : World) (hok : okM r.m = true) (hfull : room ≤ n) (hlost : lost ≤ 2147483647) :
    Calls Try.prog 40 #[.agg #[.slice A n k, .int .i64 room, .int .i64 lost], .agg (mlA r)] w fun e w' => e = .returned (.tuple #[.agg #[.slice A n k, .int .i64 room, .int .i64 (lostN lost : Nat)], .int .i64 3]) ∧ Below w.heap.size w w' := by
  obtain ⟨⟨lk, fr, ds, sr, l, st⟩, rA, rc⟩ := r
  obtain ⟨h1, h2, h3, h4, h5⟩ := (okM_not _).1 hok
  simp only at h1 h2 h3 h4 h5
  simp only [mlA]
  have ht : (decide (0 ≤ st) && decide (st ≤ 4611686018427387904)) = true := by simp [h4, h5]
  have HT := Lib.hid (fun W => time_any st W)
  rw [ht] at HT
  have hd : decide (room ≤ n) = true := decide_eq_true hfull
  have hd2 : decide ((room : Int) ≤ n) = true := decide_eq_true (by omega)
  have hm : ((lostN lost : Nat) : Int) = min 2147483647 ((lost : Int) + 1) := by unfold lostN; omega
  have HM := Lib.hid hm
  clear hok ht hm
  have hz1 : (0 : Int) ≤ (lost : Int) := by omega
  have hz2 : (lost : Int) ≤ 2147483647 := by omega
  generalize lostN lost = ll at *
  generalize (lost : Int) = z at *
  clear hlost
  go_enter Try.func40, Try.ntmps40
  go_wp2_with (go_at_call 50; refine (HT.out _).mono ?_; rintro e w' ⟨rfl, rfl⟩)
  all_goals
    first
    | (refine bodyPost_ret (v := .tuple #[.agg #[.slice A n k, .int .i64 room, .int .i64 2147483647], .int .i64 3]) (by simp [results, Try.results40, go_sem]) rfl ?_; exact ⟨by rw [show ((ll : Nat) : Int) = 2147483647 by rw [HM.out]; omega], by go_grown⟩)
    | (refine bodyPost_ret (v := .tuple #[.agg #[.slice A n k, .int .i64 room, .int .i64 (z + 1)], .int .i64 3]) (by simp [results, Try.results40, go_sem]) rfl ?_; exact ⟨by rw [show ((ll : Nat) : Int) = z + 1 by rw [HM.out]; omega], by go_grown⟩)

theorem app_g {w2 W w3 : World} {G : Nat} {A3 : Option Addr} {m c3 : Nat} (hW : Below w2.heap.size w2 W) (hG : w2.heap.size ≤ G) (r3 : W.grownBy w3 (Value.slice (some ⟨G, 0, none⟩) 0 0).ownBlock)
    (a3 : (Value.slice A3 m c3).ownBlock = (Value.slice (some ⟨G, 0, none⟩) 0 0).ownBlock ∨ (Value.slice A3 m c3).ownBlock = some W.heap.size) :
    Fr (fun k => k < w2.heap.size) w2 w3 ∧ (∀ q, (Value.slice A3 m c3).ownBlock = some q → w2.heap.size ≤ q) ∧ Fr (fun k => k ≠ G) W w3 := by
  have hz := hW.size
  have e1 : (Value.slice (some ⟨G, 0, none⟩) 0 0).ownBlock = some G := rfl
  rw [e1] at r3 a3
  refine ⟨(Fr.of_below hW).trans (Fr.grown r3 (fun b hb e => by injection e with e; omega)), fun q hq => ?_, Fr.grown r3 (fun b hb e => hb (by injection e with e; omega))⟩
  rw [hq] at a3
  rcases a3 with h | h
  · injection h with h; omega
  · injection h with h; omega

set_option maxHeartbeats 2000000 in
theorem refput_ok (r : Ml) (room lost : Nat) (rs : List Ml) (n k : Nat) (hnn : rs.length = n) (A : Option Addr) (w : World) (hok : okM r.m = true) (hfree : n < room) (hR : Rd w w.heap.size A (mlC rs)) (hn : n ≤ 512) (hnk : n ≤ k) (hk : k ≤ 9223372036854775807) :
    Calls Try.prog 40 #[.agg #[.slice A n k, .int .i64 room, .int .i64 lost], .agg (mlA r)] w fun e w' => ∃ A' c', e = .returned (.tuple #[.agg #[.slice A' (n + 1) c', .int .i64 room, .int .i64 lost], .int .i64 0]) ∧ NewRow w w' (mlC (rs ++ [r])) A' (n + 1) c' ∧ Below w.heap.size w w' := by
  obtain ⟨i0, hi0, hz0, hz1, hz2⟩ := info_parts mail_info
  obtain ⟨h1, h2, h3, h4, h5⟩ := (okM_not _).1 hok
  have ht : (decide (0 ≤ r.m.sent) && decide (r.m.sent ≤ 4611686018427387904)) = true := by simp [h4, h5]
  have HT := Lib.hid (fun W => time_any r.m.sent W)
  rw [ht] at HT
  have hd : decide (room ≤ n) = false := decide_eq_false (by omega)
  have hd2 : decide ((room : Int) ≤ n) = false := decide_eq_false (by omega)
  have x0 := ((Blk.new w 49 #[.slice A n k, .int .i64 room, .int .i64 lost]).alloc (.cells (mlA r) 33)).alloc (.cells #[.slice none 0 0, .int .i64 0, .int .i64 0] 49)
  have x1 := (Blk.new (w.alloc (.cells #[.slice A n k, .int .i64 room, .int .i64 lost] 49)) 33 (mlA r)).alloc (.cells #[.slice none 0 0, .int .i64 0, .int .i64 0] 49)
  have x2 := Blk.new ((w.alloc (.cells #[.slice A n k, .int .i64 room, .int .i64 lost] 49)).alloc (.cells (mlA r) 33)) 49 #[.slice none 0 0, .int .i64 0, .int .i64 0]
  simp only [World.size_alloc] at x1 x2
  have B0 : Below w.heap.size w (((w.alloc (.cells #[.slice A n k, .int .i64 room, .int .i64 lost] 49)).alloc (.cells (mlA r) 33)).alloc (.cells #[.slice none 0 0, .int .i64 0, .int .i64 0] 49)) := balloc (balloc (balloc (Below.refl _ _) _) _) _
  have HR1 := Lib.hid (fun W (hW : Below w.heap.size w W) => hR.below hW)
  have HL1 := Lib.hid (show (mlC rs).length = n * 6 by rw [mlC_len, hnn])
  have X := Lib.hid (And.intro x0 (And.intro x1 (And.intro x2 B0)))
  clear hok ht hR x0 x1 x2 B0 hnn
  simp only [mlA] at *
  go_enter Try.func40, Try.ntmps40
  go_wp2_with (go_at_call 50; refine (HT.out _).mono ?_; rintro e w' ⟨rfl, rfl⟩)
  have HX0 := Lib.hid X.out.1
  have HX1 := Lib.hid X.out.2.1
  have HX2 := Lib.hid X.out.2.2.1
  have HB2 := Lib.hid X.out.2.2.2
  have hs2 : w.heap.size + 3 ≤ (((w.alloc (.cells #[.slice A n k, .int .i64 room, .int .i64 lost] 49)).alloc (.cells #[.int .i64 r.m.link, .int .i64 r.m.frm, .int .i64 r.m.dst, .int .u32 r.m.src, .slice r.A r.m.bs.length r.c, .int .i64 r.m.sent] 33)).alloc (.cells #[.slice none 0 0, .int .i64 0, .int .i64 0] 49)).heap.size := by simp
  clear X
  generalize ((w.alloc (.cells #[.slice A n k, .int .i64 room, .int .i64 lost] 49)).alloc (.cells #[.int .i64 r.m.link, .int .i64 r.m.frm, .int .i64 r.m.dst, .int .u32 r.m.src, .slice r.A r.m.bs.length r.c, .int .i64 r.m.sent] 33)).alloc (.cells #[.slice none 0 0, .int .i64 0, .int .i64 0] 49) = w2 at *
  have hw2 : w.heap.size < w2.heap.size := by omega
  obtain ⟨d0, d1, d2⟩ := HX0.out.three
  obtain ⟨f0, f1, f2⟩ := HX0.out.ice3
  obtain ⟨g0, g1, g2, g3, g4, g5⟩ := HX1.out.six
  have BA := Lib.hid (show Below w2.heap.size w2 (w2.alloc (.cells #[] 33)).drew from Below.drew (balloc (Below.refl w2.heap.size w2) _))
  have RA := Lib.hid (show Rd (w2.alloc (.cells #[] 33)).drew w.heap.size A (mlC rs) from HR1.out _ (HB2.out.trans (BA.out.mono (Nat.le_of_lt hw2))))
  have SA := Lib.hid (show w.heap.size ≤ ((w2.alloc (.cells #[] 33)).drew).heap.size from Nat.le_trans (Nat.le_of_lt hw2) BA.out.size)
  have BB := Lib.hid (show Below w2.heap.size w2 ((w2.alloc (.cells #[] 33)).alloc (.cells #[.int .i64 r.m.link, .int .i64 r.m.frm, .int .i64 r.m.dst, .int .u32 r.m.src, .slice r.A r.m.bs.length r.c, .int .i64 r.m.sent] 33)).drew from Below.drew (balloc (balloc (Below.refl w2.heap.size w2) _) _))
  have RB := Lib.hid (show Rd ((w2.alloc (.cells #[] 33)).alloc (.cells #[.int .i64 r.m.link, .int .i64 r.m.frm, .int .i64 r.m.dst, .int .u32 r.m.src, .slice r.A r.m.bs.length r.c, .int .i64 r.m.sent] 33)).drew w.heap.size A (mlC rs) from HR1.out _ (HB2.out.trans (BB.out.mono (Nat.le_of_lt hw2))))
  have SB := Lib.hid (show w.heap.size ≤ (((w2.alloc (.cells #[] 33)).alloc (.cells #[.int .i64 r.m.link, .int .i64 r.m.frm, .int .i64 r.m.dst, .int .u32 r.m.src, .slice r.A r.m.bs.length r.c, .int .i64 r.m.sent] 33)).drew).heap.size from Nat.le_trans (Nat.le_of_lt hw2) BB.out.size)
  have BC := Lib.hid (show Below w2.heap.size w2 ((w2.alloc (.cells #[.int .i64 r.m.link, .int .i64 r.m.frm, .int .i64 r.m.dst, .int .u32 r.m.src, .slice r.A r.m.bs.length r.c, .int .i64 r.m.sent] 33)).alloc (.cells #[] 33)).drew from Below.drew (balloc (balloc (Below.refl w2.heap.size w2) _) _))
  have RC := Lib.hid (show Rd ((w2.alloc (.cells #[.int .i64 r.m.link, .int .i64 r.m.frm, .int .i64 r.m.dst, .int .u32 r.m.src, .slice r.A r.m.bs.length r.c, .int .i64 r.m.sent] 33)).alloc (.cells #[] 33)).drew w.heap.size A (mlC rs) from HR1.out _ (HB2.out.trans (BC.out.mono (Nat.le_of_lt hw2))))
  have SC := Lib.hid (show w.heap.size ≤ (((w2.alloc (.cells #[.int .i64 r.m.link, .int .i64 r.m.frm, .int .i64 r.m.dst, .int .u32 r.m.src, .slice r.A r.m.bs.length r.c, .int .i64 r.m.sent] 33)).alloc (.cells #[] 33)).drew).heap.size from Nat.le_trans (Nat.le_of_lt hw2) BC.out.size)
  have OA := Lib.hid (show ((w2.alloc (.cells #[] 33)).drew).ownsRow w.heap.size 33 6 (.slice (some ⟨w2.heap.size, 0, none⟩) 0 0) 0 [] from World.ownsRow_lit w2 #[] 0 (Nat.le_of_lt hw2) (by simp [maxLen]) (by simp))
  have OB := Lib.hid (show (((w2.alloc (.cells #[] 33)).alloc (.cells #[.int .i64 r.m.link, .int .i64 r.m.frm, .int .i64 r.m.dst, .int .u32 r.m.src, .slice r.A r.m.bs.length r.c, .int .i64 r.m.sent] 33)).drew).ownsRow w.heap.size 33 6 (.slice (some ⟨w2.heap.size, 0, none⟩) 0 0) 0 [] from own_below (w := w2.alloc (.cells #[] 33)) (World.ownsRow_lit w2 #[] 0 (Nat.le_of_lt hw2) (by simp [maxLen]) (by simp)) (Below.drew (balloc (Below.refl _ _) _)))
  have OC0 : (((w2.alloc (.cells #[.int .i64 r.m.link, .int .i64 r.m.frm, .int .i64 r.m.dst, .int .u32 r.m.src, .slice r.A r.m.bs.length r.c, .int .i64 r.m.sent] 33)).alloc (.cells #[] 33)).drew).ownsRow w.heap.size 33 6 (.slice (some ⟨(w2.alloc (.cells #[.int .i64 r.m.link, .int .i64 r.m.frm, .int .i64 r.m.dst, .int .u32 r.m.src, .slice r.A r.m.bs.length r.c, .int .i64 r.m.sent] 33)).heap.size, 0, none⟩) 0 0) 0 [] := World.ownsRow_lit (w2.alloc (.cells #[.int .i64 r.m.link, .int .i64 r.m.frm, .int .i64 r.m.dst, .int .u32 r.m.src, .slice r.A r.m.bs.length r.c, .int .i64 r.m.sent] 33)) #[] 0 (by simp; omega) (by simp [maxLen]) (by simp)
  rw [World.size_alloc] at OC0
  have OC := Lib.hid OC0
  have MB0 : Blk ((w2.alloc (.cells #[] 33)).alloc (.cells #[.int .i64 r.m.link, .int .i64 r.m.frm, .int .i64 r.m.dst, .int .u32 r.m.src, .slice r.A r.m.bs.length r.c, .int .i64 r.m.sent] 33)).drew (w2.alloc (.cells #[] 33)).heap.size 33 #[.int .i64 r.m.link, .int .i64 r.m.frm, .int .i64 r.m.dst, .int .u32 r.m.src, .slice r.A r.m.bs.length r.c, .int .i64 r.m.sent] := Blk.new (w2.alloc (.cells #[] 33)) 33 _
  rw [World.size_alloc] at MB0
  have MB := Lib.hid MB0
  have MC := Lib.hid (show Blk ((w2.alloc (.cells #[.int .i64 r.m.link, .int .i64 r.m.frm, .int .i64 r.m.dst, .int .u32 r.m.src, .slice r.A r.m.bs.length r.c, .int .i64 r.m.sent] 33)).alloc (.cells #[] 33)).drew w2.heap.size 33 #[.int .i64 r.m.link, .int .i64 r.m.frm, .int .i64 r.m.dst, .int .u32 r.m.src, .slice r.A r.m.bs.length r.c, .int .i64 r.m.sent] from (Blk.new w2 33 _).alloc _)
  clear OC0 MB0
  have L0 := Lib.hid (show 0 + n ≤ maxLen by simp only [maxLen]; omega)
  have L1 := Lib.hid (show (0 + n) * 64 ≤ 140737488355328 by omega)
  have L3 := Lib.hid (show n + 1 ≤ maxLen by simp only [maxLen]; omega)
  have L4 := Lib.hid (show (n + 1) * 64 ≤ 140737488355328 by omega)
  have HML := Lib.hid (show (mlL r).length = 1 * 6 from rfl)
  have RDM := Lib.hid (fun (W : World) (G : Nat) (h : Blk W G 33 #[.int .i64 r.m.link, .int .i64 r.m.frm, .int .i64 r.m.dst, .int .u32 r.m.src, .slice r.A r.m.bs.length r.c, .int .i64 r.m.sent]) => (show Rd W W.heap.size (some ⟨G, 0, none⟩) (mlL r) from fun _ => ⟨G, 0, rfl, h.lt, fun i u hu => by
    have e : (#[.int .i64 r.m.link, .int .i64 r.m.frm, .int .i64 r.m.dst, .int .u32 r.m.src, .slice r.A r.m.bs.length r.c, .int .i64 r.m.sent] : Array Value)[i]? = (mlL r)[i]? := by simp [mlL]
    rw [Nat.zero_add, h.cell i, e]; exact hu⟩))
  have daA : (w2.alloc (.cells #[] 33)).cell? ⟨w.heap.size, 0, none⟩ = some (.slice A n k) := ((show Below w2.heap.size w2 (w2.alloc (.cells #[] 33)) from balloc (Below.refl w2.heap.size w2) _).cell (p := ⟨w.heap.size, 0, none⟩) hw2).trans d0
  have daB : ((w2.alloc (.cells #[] 33)).alloc (.cells #[.int .i64 r.m.link, .int .i64 r.m.frm, .int .i64 r.m.dst, .int .u32 r.m.src, .slice r.A r.m.bs.length r.c, .int .i64 r.m.sent] 33)).cell? ⟨w.heap.size, 0, none⟩ = some (.slice A n k) := ((show Below w2.heap.size w2 ((w2.alloc (.cells #[] 33)).alloc (.cells #[.int .i64 r.m.link, .int .i64 r.m.frm, .int .i64 r.m.dst, .int .u32 r.m.src, .slice r.A r.m.bs.length r.c, .int .i64 r.m.sent] 33)) from balloc (balloc (Below.refl w2.heap.size w2) _) _).cell (p := ⟨w.heap.size, 0, none⟩) hw2).trans d0
  have daC : ((w2.alloc (.cells #[.int .i64 r.m.link, .int .i64 r.m.frm, .int .i64 r.m.dst, .int .u32 r.m.src, .slice r.A r.m.bs.length r.c, .int .i64 r.m.sent] 33)).alloc (.cells #[] 33)).cell? ⟨w.heap.size, 0, none⟩ = some (.slice A n k) := ((show Below w2.heap.size w2 ((w2.alloc (.cells #[.int .i64 r.m.link, .int .i64 r.m.frm, .int .i64 r.m.dst, .int .u32 r.m.src, .slice r.A r.m.bs.length r.c, .int .i64 r.m.sent] 33)).alloc (.cells #[] 33)) from balloc (balloc (Below.refl w2.heap.size w2) _) _).cell (p := ⟨w.heap.size, 0, none⟩) hw2).trans d0
  have daD : (w2.alloc (.cells #[.int .i64 r.m.link, .int .i64 r.m.frm, .int .i64 r.m.dst, .int .u32 r.m.src, .slice r.A r.m.bs.length r.c, .int .i64 r.m.sent] 33)).cell? ⟨w.heap.size, 0, none⟩ = some (.slice A n k) := ((show Below w2.heap.size w2 (w2.alloc (.cells #[.int .i64 r.m.link, .int .i64 r.m.frm, .int .i64 r.m.dst, .int .u32 r.m.src, .slice r.A r.m.bs.length r.c, .int .i64 r.m.sent] 33)) from balloc (Below.refl w2.heap.size w2) _).cell (p := ⟨w.heap.size, 0, none⟩) hw2).trans d0
  obtain ⟨ga0, ga1, ga2, ga3, ga4, ga5⟩ := (HX1.out.alloc (.cells #[] 33)).six
  go_region_law
    (first
    | (refine step_append_rd (by rfl) _ _ _ (by rfl) w.heap.size 33 i0 _ 6 64 Try.underlying47 hi0 hz0 hz1 hz2 rfl (by omega) (.slice (some ⟨w2.heap.size, 0, none⟩) 0 0) 0 [] (by rfl) OA.out n k (mlC rs) (by rfl) HL1.out RA.out (mlC_one _) L0.out L1.out SA.out ?_; intro A3 c3 w3 o3 r3 a3; simp only [Nat.zero_add, List.nil_append] at o3 a3 ⊢; obtain ⟨F3, own3, G3⟩ := app_g BA.out (by omega) r3 a3; have e0 := F3.cell (a := ⟨w.heap.size, 0, none⟩) d0 hw2; have e1 := (F3.frozen (a := ⟨w.heap.size, 0, none⟩) hw2 hw2).trans f0; have bw3 : Below w.heap.size w w3 := HB2.out.trans (F3.below (Nat.le_of_lt hw2) (fun b hb => Nat.lt_trans hb hw2)); obtain ⟨q0, q1, q2, q3, q4, q5⟩ := (F3.blk HX1.out (by omega)).six)
    | (refine step_append_rd (by rfl) _ _ _ (by rfl) w.heap.size 33 i0 _ 6 64 Try.underlying47 hi0 hz0 hz1 hz2 rfl (by omega) (.slice (some ⟨w2.heap.size, 0, none⟩) 0 0) 0 [] (by rfl) OB.out n k (mlC rs) (by rfl) HL1.out RB.out (mlC_one _) L0.out L1.out SB.out ?_; intro A3 c3 w3 o3 r3 a3; simp only [Nat.zero_add, List.nil_append] at o3 a3 ⊢; obtain ⟨F3, own3, G3⟩ := app_g BB.out (by omega) r3 a3; have e0 := F3.cell (a := ⟨w.heap.size, 0, none⟩) d0 hw2; have e1 := (F3.frozen (a := ⟨w.heap.size, 0, none⟩) hw2 hw2).trans f0; have bw3 : Below w.heap.size w w3 := HB2.out.trans (F3.below (Nat.le_of_lt hw2) (fun b hb => Nat.lt_trans hb hw2)); have mk := G3.blk MB.out (by omega))
    | (refine step_append_rd (by rfl) _ _ _ (by rfl) w.heap.size 33 i0 _ 6 64 Try.underlying47 hi0 hz0 hz1 hz2 rfl (by omega) (.slice (some ⟨w2.heap.size + 1, 0, none⟩) 0 0) 0 [] (by rfl) OC.out n k (mlC rs) (by rfl) HL1.out RC.out (mlC_one _) L0.out L1.out SC.out ?_; intro A3 c3 w3 o3 r3 a3; simp only [Nat.zero_add, List.nil_append] at o3 a3 ⊢; obtain ⟨F3, own3, G3⟩ := app_g BC.out (by omega) r3 a3; have e0 := F3.cell (a := ⟨w.heap.size, 0, none⟩) d0 hw2; have e1 := (F3.frozen (a := ⟨w.heap.size, 0, none⟩) hw2 hw2).trans f0; have bw3 : Below w.heap.size w w3 := HB2.out.trans (F3.below (Nat.le_of_lt hw2) (fun b hb => Nat.lt_trans hb hw2)); have mk := G3.blk MC.out (by omega))
    | (refine step_append_rd (by rfl) _ _ _ (by rfl) w.heap.size 33 i0 _ 6 64 Try.underlying47 hi0 hz0 hz1 hz2 rfl (by omega) (.slice A3 n c3) n (mlC rs) (by rfl) o3 1 1 (mlL r) (by rfl) HML.out (RDM.out w3 (w2.heap.size + 1) mk) (mlL_one _) L3.out L4.out bw3.size ?_; intro A5 c5 w5 o5 r5 a5; obtain ⟨F5, own5⟩ := app_b F3.2.2.2.1 own3 r5 a5; have e5 := F5.cell (a := ⟨w.heap.size, 0, none⟩) e0 hw2; have e6 := (F5.frozen (a := ⟨w.heap.size, 0, none⟩) (Nat.lt_of_lt_of_le hw2 F3.2.2.2.1) hw2).trans e1)
    | (refine step_append_rd (by rfl) _ _ _ (by rfl) w.heap.size 33 i0 _ 6 64 Try.underlying47 hi0 hz0 hz1 hz2 rfl (by omega) (.slice A3 n c3) n (mlC rs) (by rfl) o3 1 1 (mlL r) (by rfl) HML.out (RDM.out w3 (w2.heap.size) mk) (mlL_one _) L3.out L4.out bw3.size ?_; intro A5 c5 w5 o5 r5 a5; obtain ⟨F5, own5⟩ := app_b F3.2.2.2.1 own3 r5 a5; have e5 := F5.cell (a := ⟨w.heap.size, 0, none⟩) e0 hw2; have e6 := (F5.frozen (a := ⟨w.heap.size, 0, none⟩) (Nat.lt_of_lt_of_le hw2 F3.2.2.2.1) hw2).trans e1)
    | (refine step_append_rd (by rfl) _ _ _ (by rfl) w.heap.size 33 i0 _ 6 64 Try.underlying47 hi0 hz0 hz1 hz2 rfl (by omega) (.slice A3 n c3) n (mlC rs) (by rfl) (own_below o3 (balloc (Below.refl w3.heap.size w3) (.cells #[.int .i64 r.m.link, .int .i64 r.m.frm, .int .i64 r.m.dst, .int .u32 r.m.src, .slice r.A r.m.bs.length r.c, .int .i64 r.m.sent] 33))) 1 1 (mlL r) (by rfl) HML.out (RDM.out (w3.alloc (.cells #[.int .i64 r.m.link, .int .i64 r.m.frm, .int .i64 r.m.dst, .int .u32 r.m.src, .slice r.A r.m.bs.length r.c, .int .i64 r.m.sent] 33)) w3.heap.size (Blk.new w3 33 _)) (mlL_one _) L3.out L4.out (Nat.le_trans bw3.size (balloc (Below.refl w3.heap.size w3) (.cells #[.int .i64 r.m.link, .int .i64 r.m.frm, .int .i64 r.m.dst, .int .u32 r.m.src, .slice r.A r.m.bs.length r.c, .int .i64 r.m.sent] 33)).size) ?_; intro A5 c5 w5 o5 r5 a5; obtain ⟨F5a, own5⟩ := app_b (Nat.le_trans F3.2.2.2.1 (balloc (Below.refl w3.heap.size w3) (.cells #[.int .i64 r.m.link, .int .i64 r.m.frm, .int .i64 r.m.dst, .int .u32 r.m.src, .slice r.A r.m.bs.length r.c, .int .i64 r.m.sent] 33)).size) own3 r5 a5; have F5 : Fr (fun k => k < w2.heap.size) w3 w5 := (Fr.alloc (.cells #[.int .i64 r.m.link, .int .i64 r.m.frm, .int .i64 r.m.dst, .int .u32 r.m.src, .slice r.A r.m.bs.length r.c, .int .i64 r.m.sent] 33)).trans F5a; have e5 := F5.cell (a := ⟨w.heap.size, 0, none⟩) e0 hw2; have e6 := (F5.frozen (a := ⟨w.heap.size, 0, none⟩) (Nat.lt_of_lt_of_le hw2 F3.2.2.2.1) hw2).trans e1))
  all_goals
    have y0 := (F5.blk (F3.blk HX0.out hw2) hw2).set 0 (.slice A5 (n + 1) c5)
    simp only [List.setIfInBounds_toArray, List.set_cons_zero] at y0
    have y2 := (F5.blk (F3.blk HX2.out (by omega)) (by omega)).far (p := ⟨w.heap.size, 0, none⟩) (show ¬ w.heap.size + 1 + 1 = w.heap.size by omega) (.slice A5 (n + 1) c5)
    have bE : Below w.heap.size w (w5.setCell ⟨w.heap.size, 0, none⟩ (.slice A5 (n + 1) c5)) := (bw3.trans (F5.below (Nat.le_trans (Nat.le_of_lt hw2) F3.2.2.2.1) (fun b hb => by omega))).setCell (p := ⟨w.heap.size, 0, none⟩) (Nat.le_refl _) _
    have o6 : (w5.setCell ⟨w.heap.size, 0, none⟩ (.slice A5 (n + 1) c5)).ownsRow w.heap.size 33 6 (.slice A5 (n + 1) c5) (n + 1) (mlC rs ++ mlL r) :=
      own_keep o5 (Nat.le_refl _) (fun q hq _ => Below.heap_setCell w5 _ _ q (by have := own5 q hq; show q ≠ w.heap.size; omega))
    clear d0 d1 d2 f0 f1 f2 g0 g1 g2 g3 g4 g5 e0 e1 e5 e6 daA daB daC daD ga0 ga1 ga2 ga3 ga4 ga5
    obtain ⟨m0, m1, m2⟩ := y0.three
    obtain ⟨k0, k1, k2⟩ := y2.three
    obtain ⟨f0, f1, f2⟩ := y2.ice3
    have FIN := Lib.hid (And.intro bE o6)
    clear bE o6 y0 y2
    generalize w5.setCell ⟨w.heap.size, 0, none⟩ (.slice A5 (n + 1) c5) = w6 at *
    go_wp2_with fail
    refine bodyPost_ret (v := .tuple #[.agg #[.slice A5 (n + 1) c5, .int .i64 room, .int .i64 lost], .int .i64 0]) (by simp [results, Try.results40, go_sem, m0, m1, m2, k0, k1, k2]) rfl ?_
    have o7 := FIN.out.2
    rw [show mlL r = mlC [r] by simp [mlC], ← mlC_append] at o7
    have FE : Fr (fun k => k ≠ w.heap.size + 1 + 1) w6 (((w6.setCell ⟨w.heap.size + 1 + 1, 0, none⟩ (.slice A5 (n + 1) c5)).setCell ⟨w.heap.size + 1 + 1, 1, none⟩ (.int .i64 room)).setCell ⟨w.heap.size + 1 + 1, 2, none⟩ (.int .i64 lost)) := ((Fr.refl.put 0 _).put 1 _).put 2 _
    obtain ⟨_, _, he, q1, q2, _⟩ := own_row o7
    injection he with _ _ he
    subst he
    exact ⟨A5, c5, rfl, ⟨own_keep o7 (Nat.le_refl _) (fun q hq hl => FE.2.2.2.2 q (by have := own5 q hq; omega) hl), q1, q2⟩, FIN.out.1.trans (FE.below FIN.out.1.size (fun b hb => by omega))⟩
end Go.Proofs.Ytgdkobknjgbdbaa
