/- packet: Cut. -/
import Derived.Test.YtpadlillbofpnaaDoorPk8
namespace Go.Proofs.YtpadlillbofpnaaDoor
set_option linter.unusedVariables false
set_option linter.unusedSimpArgs false
open Go.RowKit
set_option maxRecDepth 100000
def cutE (cm : Int) (l : List Er) : Int := if cmdB cm && l.all okE then 0 else 2
def cutN (cm : Int) (l : List Er) : Nat := if cmdB cm && l.all okE then (l.length + 24) / 25 else 0
def CutR (cm : Int) (l : List Er) (w : World) (e : Ending) (w' : World) : Prop :=
  ∃ A' ds c', e = .returned (.tuple #[.slice A' ds.length c', .int .i64 (cutE cm l)]) ∧ ds.length = cutN cm l ∧ ds.length ≤ c' ∧ c' ≤ 9223372036854775807 ∧ Rd w' w'.heap.size A' (dgC cm ds) ∧ Pcs w' (fun _ => True) l ds ∧ Below w.heap.size w w'
set_option maxHeartbeats 4000000 in
theorem cut_all (cm : Int) (l : List Er) (n c : Nat) (hn : l.length = n) (A : Option Addr) (w : World) (hr : Rd w w.heap.size A (erC l)) (hf : ∀ e ∈ l, fitR e) (hw : WidthsAt w) (hnc : n ≤ c ∧ c ≤ 9223372036854775807) (hl : n ≤ 1000) :
    Calls Tryd.prog 15 #[.int .i64 cm, .slice A n c] w (CutR cm l w) := by
  have hb1 : Below w.heap.size w (w.alloc (.cells #[.int .i64 cm] 24)) := balloc (Below.refl _ _) _
  have hx := Blk.new w 24 #[.int .i64 cm]
  have hr1 := hr.alloc (Nat.le_refl _) (.cells #[.int .i64 cm] 24)
  have hw1 := hw.below hb1
  obtain ⟨w1, hw1e⟩ : ∃ w1, w1 = w.alloc (.cells #[.int .i64 cm] 24) := ⟨_, rfl⟩
  have hsz : w1.heap.size = w.heap.size + 1 := by rw [hw1e]; simp
  rw [← hw1e] at hb1 hx hr1 hw1
  have HI := Lib.hid (fun W => iscmd_any cm W)
  have HH := Lib.hid (fun W (hW : Below w1.heap.size w1 W) => have_any l n c hn A W ((hr1.below (hW.mono (by omega))).more (Nat.le_trans (by omega) hW.size)) hf (hw1.below hW) (by omega))
  have HC := Lib.hid (fun W (hW : Below w1.heap.size w1 W) => pcut_any cm l n c w.heap.size w.heap.size hn A W (hr1.below (hW.mono (by omega))) (Nat.le_trans (by omega) hW.size) hnc hl (hx.below hW hx.lt))
  have HB1 := Lib.hid hb1
  have HW1 := Lib.hid hw1e
  have HN := Lib.hid hn
  have q0 := hx.cell 0
  simp only [List.getElem?_toArray, List.getElem?_cons_zero] at q0
  have s1 : w1.cell? ⟨w.heap.size, 0, none⟩ = some (.int .i64 cm) := q0
  have s2 : w1.drew.cell? ⟨w.heap.size, 0, none⟩ = some (.int .i64 cm) := q0
  unfold CutR cutE cutN
  clear hw1e hb1 hx hr hr1 hw hw1 hn q0 hf
  generalize hk1 : cmdB cm = k1 at *
  cases k1
  · go_enter Tryd.func15, Tryd.ntmps15
    go_wp2_with fail
    rw [← HW1.out]
    go_wp2_with (refine (HI.out _).mono ?_; rintro e w2 ⟨rfl, rfl⟩)
    go_ret2
    exact ⟨none, [], 0, rfl, by simp, by simp, by simp, Rd.nil, fun i d hd => by simp at hd, by first | exact HB1.out | exact below_drewN HB1.out 1⟩
  · generalize hk2 : l.all okE = k2 at *
    cases k2
    · go_enter Tryd.func15, Tryd.ntmps15
      go_wp2_with fail
      rw [← HW1.out]
      go_wp2_with (first
        | (go_at_call 30; refine (HI.out _).mono ?_; rintro e w2 ⟨rfl, rfl⟩)
        | (go_at_call 31; refine (HH.out _ (by first | exact Below.refl _ _ | exact below_drewN (Below.refl _ _) 1)).mono ?_; rintro e w2 ⟨rfl, b2⟩))
      go_ret2
      exact ⟨none, [], 0, rfl, by simp, by simp, by simp, Rd.nil, fun i d hd => by simp at hd, by first | exact bnext HB1.out b2 | exact bnext HB1.out (below_of_drewN (n := 1) b2)⟩
    · go_enter Tryd.func15, Tryd.ntmps15
      go_wp2_with fail
      rw [← HW1.out]
      go_wp2_with (first
        | (go_at_call 30; refine (HI.out _).mono ?_; rintro e w2 ⟨rfl, rfl⟩)
        | (go_at_call 31; refine (HH.out _ (by first | exact Below.refl _ _ | exact below_drewN (Below.refl _ _) 1)).mono ?_; rintro e w2 ⟨rfl, b2⟩)
        | (refine (HC.out _ (by first | exact b2 | exact below_of_drewN (n := 1) b2)).mono ?_; rintro e w3 ⟨v3, ds, rfl, o3, p3, l3, b3⟩; obtain ⟨A3, c3, rfl, z1, z2, z3, z4⟩ := own_row o3; have L3 := Lib.hid l3; clear l3))
      go_ret2
      refine ⟨A3, ds, c3, rfl, by rw [L3.out], z1, by unfold maxLen at z2; omega, z3, p3.fr (Fr.of_below (p := fun _ => True) (Below.refl _ _)) (fun _ _ _ => trivial) (fun _ _ _ => trivial), ?_⟩
      first
        | exact bnext HB1.out (bnext b2 b3)
        | exact bnext HB1.out (bnext (below_of_drewN (n := 1) b2) b3)
        | exact bnext HB1.out (bnext (below_of_drewN (n := 1) b2) (below_of_drewN (n := 1) b3))
end Go.Proofs.YtpadlillbofpnaaDoor
