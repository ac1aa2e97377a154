/- flight: Copy. -/
import Derived.Test.YtgdkobknjgbdbaaFlV
namespace Go.Proofs.Ytgdkobknjgbdbaa
set_option linter.unusedVariables false
set_option linter.unusedSimpArgs false
open Go.RowKit
set_option maxRecDepth 100000

set_option maxHeartbeats 1000000 in
theorem copy_any {n0 g room lost : Nat} {v : Value} {rs : List Ml} {w : World} (hF : Fl w n0 g v rs room lost) (hn0 : n0 ≤ w.heap.size) :
    Calls Try.prog 26 #[.pointer (some ⟨g, 0, none⟩)] w fun e w' => ∃ g' v', e = .returned (.pointer (some ⟨g', 0, none⟩)) ∧ Fl w' n0 g' v' rs room lost ∧ w.heap.size ≤ g' ∧ (∀ k, v'.ownBlock = some k → w.heap.size ≤ k) ∧ Below w.heap.size w w' := by
  have HL := Lib.hid hF.live
  have HF := Lib.hid hF
  obtain ⟨A, c, hv, hc1, hc2, hR, _⟩ := hF.row
  have hblk := hF.blk
  rw [hv] at hblk
  have HC := Lib.hid (fun W (hW : Below w.heap.size w W) => uclone_any rs rs.length rfl A c w.heap.size W (hR.below hW) (by have := hF.len; have := hF.room0.2; omega) hW.size)
  obtain ⟨d0, d1, d2⟩ := hblk.three
  have HB := Lib.hid hblk
  have HV := Lib.hid hv
  clear hF hv hR hblk
  generalize hnn : rs.length = n at *
  have HN := Lib.hid hnn
  clear hnn
  go_enter Try.func26, Try.ntmps26
  go_wp2_with (go_at_call 30; refine (HL.out _ (Below.refl _ _)).mono ?_; rintro e w' ⟨rfl, rfl⟩)
  go_region_with
    (first
    | (go_at_call 38; refine (HC.out w.drew (Below.drew (Below.refl _ _))).mono ?_; rintro e w3 ⟨v1, rfl, ho, hb⟩; obtain ⟨A3, c3, rfl, q1, q2, q3, q4⟩ := own_row ho; have hb3 := below_of_drewN (n := 1) hb; obtain ⟨e0, e1, e2⟩ := (HB.out.below hb3 HB.out.lt).three))
  all_goals
    go_wp2
    go_ret
    have x := Blk.new w3 69 #[.slice A3 n c3, .int .i64 room, .int .i64 lost]
    have b4 : Below w.heap.size w (w3.alloc (.cells #[.slice A3 n c3, .int .i64 room, .int .i64 lost] 69)) := balloc hb3 _
    have hown3 : ∀ k, (Value.slice A3 n c3).ownBlock = some k → w.heap.size ≤ k := own_base' ho
    have hlt3 := own_lt ho
    have hs3 := hb3.size
    refine ⟨w3.heap.size, .slice A3 n c3, rfl, ⟨x, by omega, by rw [HN.out]; exact own_keep ho (show n0 ≤ w.heap.size from hn0) (fun k _ hl => Below.heap_alloc w3 _ k hl), fun e => by have := hlt3 _ e; omega, HF.out.room0, HF.out.len, HF.out.lost0, fun r hr => ?_, HF.out.ok⟩, hs3, hown3, b4⟩
    obtain ⟨m1, m2⟩ := HF.out.mails r hr
    exact ⟨m1.fr (r := fun _ => True) (Fr.of_below b4) (fun _ _ _ => trivial) (fun b _ hl => ⟨by omega, fun e => by have := hown3 b e; omega⟩), m2⟩
end Go.Proofs.Ytgdkobknjgbdbaa
