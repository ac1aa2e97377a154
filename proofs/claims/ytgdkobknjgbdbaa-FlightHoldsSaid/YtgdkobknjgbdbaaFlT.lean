/- The document's flight: Take. -/
import Derived.Test.YtgdkobknjgbdbaaFlS
namespace Go.Proofs.Ytgdkobknjgbdbaa
set_option linter.unusedVariables false
set_option linter.unusedSimpArgs false
open Go.RowKit
set_option maxRecDepth 100000

theorem reftake_none (pick : Int) (room lost : Nat) (k : Nat) (A : Option Addr) (w : World) :
    Calls Try.prog 41 #[.agg #[.slice A 0 k, .int .i64 room, .int .i64 lost], .int .i64 pick] w fun e w' => e = .returned (.tuple #[.agg #[.slice A 0 k, .int .i64 room, .int .i64 lost], .agg #[.int .i64 0, .int .i64 0, .int .i64 0, .int .u32 0, .slice none 0 0, .int .i64 0], .int .i64 5]) ∧ Below w.heap.size w w' := by
  go_enter Try.func41, Try.ntmps41
  go_wp2_with fail
  refine bodyPost_ret (v := .tuple #[.agg #[.slice A 0 k, .int .i64 room, .int .i64 lost], .agg #[.int .i64 0, .int .i64 0, .int .i64 0, .int .u32 0, .slice none 0 0, .int .i64 0], .int .i64 5]) (by simp [results, Try.results41, go_sem]) rfl ⟨rfl, by go_grown⟩

theorem Fr.putA {w w1 : World} {g g' : Nat} (h : Fr (fun k => k ≠ g ∧ k ≠ g') w w1) (i : Nat) (u : Value) : Fr (fun k => k ≠ g ∧ k ≠ g') w (w1.setCell ⟨g, i, none⟩ u) := h.trans (Fr.set (a := ⟨g, i, none⟩) (fun _ h => h.1) u)
theorem Fr.putB {w w1 : World} {g g' : Nat} (h : Fr (fun k => k ≠ g ∧ k ≠ g') w w1) (i : Nat) (u : Value) : Fr (fun k => k ≠ g ∧ k ≠ g') w (w1.setCell ⟨g', i, none⟩ u) := h.trans (Fr.set (a := ⟨g', i, none⟩) (fun _ h => h.2) u)
theorem take_fin19 {w w2 w3 w6 : World} {g g' n : Nat} {xs : List Value} {A3 : Option Addr} {c3 : Nat} {room lost : Int} {r : Array Value} (b2 : Below w.heap.size w w2) (hg : g ≤ g') (hg' : w.heap.size ≤ g ∧ g' < w2.heap.size) (hnr : NewRow w2.drew w3 xs A3 n c3) (hb3 : Below w2.drew.heap.size w2.drew w3) (fE : Fr (fun k => k ≠ g ∧ k ≠ g') w3 w6) :
    ∃ A' c', Ending.returned (.tuple #[.agg #[.slice A3 n c3, .int .i64 room, .int .i64 lost], .agg r, .int .i64 0]) = .returned (.tuple #[.agg #[.slice A' n c', .int .i64 room, .int .i64 lost], .agg r, .int .i64 0]) ∧ NewRow w w6 xs A' n c' ∧ Below w.heap.size w w6 := by
  have hb3' : Below w2.heap.size w2 w3 := below_of_drewN (n := 1) hb3
  have s2 := b2.size
  have s3 := hb3'.size
  refine ⟨A3, c3, rfl, ⟨own_keep hnr.1 (show w.heap.size ≤ w2.heap.size from s2) (fun q hq hl => fE.2.2.2.2 q (by have : w2.heap.size ≤ q := own_base' hnr.1 q hq; omega) hl), hnr.2⟩, (bnext b2 hb3').trans (fE.below (by omega) (fun b hb => by omega))⟩

set_option maxHeartbeats 4000000 in
theorem reftake_ok (pick : Int) (room lost : Nat) (rs : List Ml) (r : Ml) (n k : Nat) (hnn : rs.length = n) (A : Option Addr) (w : World) (hR : Rd w w.heap.size A (mlC rs)) (h0 : 0 < n) (hr : rs[pickF pick n]? = some r) (hn : n ≤ 512) (hnk : n ≤ k) (hk : k ≤ 9223372036854775807) :
    Calls Try.prog 41 #[.agg #[.slice A n k, .int .i64 room, .int .i64 lost], .int .i64 pick] w fun e w' => ∃ A' c', e = .returned (.tuple #[.agg #[.slice A' (n - 1) c', .int .i64 room, .int .i64 lost], .agg (mlA r), .int .i64 0]) ∧ NewRow w w' (mlC (rs.eraseIdx (pickF pick n))) A' (n - 1) c' ∧ Below w.heap.size w w' := by
  have hi := pickF_lt pick n h0
  have HP := Lib.hid (fun W => refpick_any pick n W h0 (by omega))
  obtain ⟨b, off, rfl, hbb, a0, a1, a2, a3, a4, a5⟩ := ml_at hR hr
  have HWO := Lib.hid (fun W (hW : Below w.heap.size w W) => without_any room lost rs n k (pickF pick n) hnn (some ⟨b, off, none⟩) W ((hR.below hW).more hW.size) hi hn hnk hk)
  generalize pickF pick n = i at *
  have x0 := ((Blk.new w 49 #[.slice (some ⟨b, off, none⟩) n k, .int .i64 room, .int .i64 lost]).alloc (.cells #[.slice none 0 0, .int .i64 0, .int .i64 0] 49)).alloc (.cells #[.int .i64 0, .int .i64 0, .int .i64 0, .int .u32 0, .slice none 0 0, .int .i64 0] 33)
  have x1 := (Blk.new (w.alloc (.cells #[.slice (some ⟨b, off, none⟩) n k, .int .i64 room, .int .i64 lost] 49)) 49 #[.slice none 0 0, .int .i64 0, .int .i64 0]).alloc (.cells #[.int .i64 0, .int .i64 0, .int .i64 0, .int .u32 0, .slice none 0 0, .int .i64 0] 33)
  have x2 := Blk.new ((w.alloc (.cells #[.slice (some ⟨b, off, none⟩) n k, .int .i64 room, .int .i64 lost] 49)).alloc (.cells #[.slice none 0 0, .int .i64 0, .int .i64 0] 49)) 33 #[.int .i64 0, .int .i64 0, .int .i64 0, .int .u32 0, .slice none 0 0, .int .i64 0]
  simp only [World.size_alloc] at x1 x2
  have B0 : Below w.heap.size w (((w.alloc (.cells #[.slice (some ⟨b, off, none⟩) n k, .int .i64 room, .int .i64 lost] 49)).alloc (.cells #[.slice none 0 0, .int .i64 0, .int .i64 0] 49)).alloc (.cells #[.int .i64 0, .int .i64 0, .int .i64 0, .int .u32 0, .slice none 0 0, .int .i64 0] 33)) := balloc (balloc (balloc (Below.refl _ _) _) _) _
  have X := Lib.hid (And.intro x0 (And.intro x1 (And.intro x2 B0)))
  have hi1 : (i : Int) < (n : Int) := by omega
  have hi2 : (0 : Int) ≤ (i : Int) := by omega
  have hne : ((n : Int) == 0) = false := by rw [beq_eq_false_iff_ne]; omega
  have hne2 : n ≠ 0 := by omega
  clear hR hr x0 x1 x2 B0 hnn
  go_enter Try.func41, Try.ntmps41
  go_wp2_with (go_at_call 51; refine (HP.out _).mono ?_; rintro e w' ⟨rfl, rfl⟩)
  have HX0 := Lib.hid X.out.1
  have HX1 := Lib.hid X.out.2.1
  have HX2 := Lib.hid X.out.2.2.1
  have HB2 := Lib.hid X.out.2.2.2
  have hs2 : w.heap.size + 3 ≤ (((w.alloc (.cells #[.slice (some ⟨b, off, none⟩) n k, .int .i64 room, .int .i64 lost] 49)).alloc (.cells #[.slice none 0 0, .int .i64 0, .int .i64 0] 49)).alloc (.cells #[.int .i64 0, .int .i64 0, .int .i64 0, .int .u32 0, .slice none 0 0, .int .i64 0] 33)).heap.size := by simp
  clear X
  generalize ((w.alloc (.cells #[.slice (some ⟨b, off, none⟩) n k, .int .i64 room, .int .i64 lost] 49)).alloc (.cells #[.slice none 0 0, .int .i64 0, .int .i64 0] 49)).alloc (.cells #[.int .i64 0, .int .i64 0, .int .i64 0, .int .u32 0, .slice none 0 0, .int .i64 0] 33) = w2 at *
  obtain ⟨d0, d1, d2⟩ := HX0.out.three
  have g0 := (HB2.out.cell (p := ⟨b, off + i * 6, none⟩) hbb).trans a0
  have g1 := (HB2.out.cell (p := ⟨b, off + i * 6 + 1, none⟩) hbb).trans a1
  have g2 := (HB2.out.cell (p := ⟨b, off + i * 6 + 2, none⟩) hbb).trans a2
  have g3 := (HB2.out.cell (p := ⟨b, off + i * 6 + 3, none⟩) hbb).trans a3
  have g4 := (HB2.out.cell (p := ⟨b, off + i * 6 + 4, none⟩) hbb).trans a4
  have g5 := (HB2.out.cell (p := ⟨b, off + i * 6 + 5, none⟩) hbb).trans a5
  clear a0 a1 a2 a3 a4 a5
  go_region_with
    (first
    | (go_at_call 52; refine (HWO.out w2.drew (Below.drew HB2.out)).mono ?_; rintro e w3 ⟨A3, c3, rfl, hnr, hb3⟩; have hb3' := below_of_drewN (n := 1) hb3; obtain ⟨q0, q1, q2⟩ := (HX0.out.below hb3' HX0.out.lt).three; obtain ⟨k0, k1, k2⟩ := (HX1.out.below hb3' HX1.out.lt).three; obtain ⟨l0, l1, l2⟩ := (HX1.out.below hb3' HX1.out.lt).ice3; obtain ⟨m0, m1, m2, m3, m4, m5⟩ := (HX2.out.below hb3' HX2.out.lt).six; obtain ⟨i0, i1, i2, i3, i4, i5⟩ := (HX2.out.below hb3' HX2.out.lt).ice6; have bb3 := bnext HB2.out hb3'; have r0 := (hb3'.cell (p := ⟨b, off + i * 6, none⟩) (Nat.lt_of_lt_of_le hbb HB2.out.size)).trans g0; have r1 := (hb3'.cell (p := ⟨b, off + i * 6 + 1, none⟩) (Nat.lt_of_lt_of_le hbb HB2.out.size)).trans g1; have r2 := (hb3'.cell (p := ⟨b, off + i * 6 + 2, none⟩) (Nat.lt_of_lt_of_le hbb HB2.out.size)).trans g2; have r3 := (hb3'.cell (p := ⟨b, off + i * 6 + 3, none⟩) (Nat.lt_of_lt_of_le hbb HB2.out.size)).trans g3; have r4 := (hb3'.cell (p := ⟨b, off + i * 6 + 4, none⟩) (Nat.lt_of_lt_of_le hbb HB2.out.size)).trans g4; have r5 := (hb3'.cell (p := ⟨b, off + i * 6 + 5, none⟩) (Nat.lt_of_lt_of_le hbb HB2.out.size)).trans g5))
  all_goals
    go_wp2
    refine bodyPost_ret (v := .tuple #[.agg #[.slice A3 (n - 1) c3, .int .i64 room, .int .i64 lost], .agg (mlA r), .int .i64 0]) (by simp [results, Try.results41, go_sem, mlA, k0, k1, k2, m0, m1, m2, m3, m4, m5]) rfl ?_
    first
    | exact take_fin19 HB2.out (show w.heap.size + 1 ≤ w.heap.size + 1 + 1 by omega) (by omega) hnr hb3 (((((((((Fr.refl.putA 0 _).putA 1 _).putA 2 _).putB 0 _).putB 1 _).putB 2 _).putB 3 _).putB 4 _).putB 5 _)
    | exact take_fin19 HB2.out (show w.heap.size + 1 ≤ w.heap.size + 1 + 1 by omega) (by omega) hnr hb3 (((((((((Fr.refl.putB 0 _).putB 1 _).putB 2 _).putB 3 _).putB 4 _).putB 5 _).putA 0 _).putA 1 _).putA 2 _)
end Go.Proofs.Ytgdkobknjgbdbaa
