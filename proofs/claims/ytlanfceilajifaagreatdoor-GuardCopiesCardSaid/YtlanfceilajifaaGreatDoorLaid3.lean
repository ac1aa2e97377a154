/- The table of widths: what the rows' condition on it gives a walk, and a world that meets it. -/
import Derived.Test.YtlanfceilajifaaGreatDoorMA
import Derived.ProofKit
import Derived.OpenShut
import Derived.ShutString
import Derived.ChangeOld
import Derived.LaidMore
import Derived.Stop.Joined
import Derived.SevenTiedAt
namespace Go.Proofs.YtlanfceilajifaaGreatDoor
set_option linter.unusedVariables false
set_option linter.unusedSimpArgs false
open Go.ChangeShapes Go.WideShapes Go.ChangeAt Go.RowKit
open Go.ChangeMaps (open_string shut_string)
set_option linter.unusedVariables false
set_option maxRecDepth 100000

theorem own : ownKnob Tryz.prog.godebug = none := by kernel_rfl
theorem laidOut : laidOutB Tryz.prog = true := by kernel_rfl
theorem gWidths : Tryz.prog.globalNamed "waywarden/octet.widths" = some 1 := by kernel_rfl
theorem tWidths : (Tryz.prog.globals[1]?).map (·.type) = some 236 := by kernel_rfl

theorem door_met (os : Os) (args : Array Value) : laidMetH Tryz.prog [("waywarden/octet.widths", Rows.laid_waywarden_octet_widths)] ((World.doorLaid Tryz.prog 400 os).forCall (fun _ _ => 0) ⟨#[], args, []⟩).memory :=
  laidMetH_of_parts3 (fuel := 8) (laidMet_of_run' 8 (by kernel_rfl) (by kernel_rfl)) (by kernel_rfl) (by kernel_rfl)

theorem widths_of_laid {W : World} (h : laidMetH Tryz.prog [("waywarden/octet.widths", Rows.laid_waywarden_octet_widths)] W) : WidthsAt W := by
  rw [MakeChecks.laidMetH_plain _ _ _ (by kernel_rfl)] at h
  obtain ⟨ps, ⟨g0, t0, cs0, f0, p0, q0, hg0, ht0, hv0, hd0, _, _⟩, _, _⟩ := h
  obtain rfl := Option.some.inj (gWidths.symm.trans hg0)
  obtain rfl := Option.some.inj (tWidths.symm.trans ht0)
  obtain ⟨xs, m1, rfl, hx1, hlen, hn3, hel⟩ := DataW.trod_array Tryz.underlying236 hd0
  have c3 : Tryz.prog.cellsOf 3 = 1 := by kernel_rfl
  simp only [Prod.mk.injEq, Rows.laid_waywarden_octet_widths, DataW.agg.injEq] at hx1
  have h0 := hel 0 (by decide)
  have h1 := hel 1 (by decide)
  have h2 := hel 2 (by decide)
  match xs, hn3, hx1, h0, h1, h2 with
  | [x0, x1, x2], _, hx1, h0, h1, h2 =>
    simp only [List.map_cons, List.map_nil, List.cons.injEq] at hx1
    obtain ⟨k0, e0, d0, _⟩ := DataW.trod_int Tryz.underlying3 (show DataW.trod _ Tryz.prog W 0 _ false m1 3 _ = some x0 from h0)
    obtain ⟨k1, e1, d1, _⟩ := DataW.trod_int Tryz.underlying3 (show DataW.trod _ Tryz.prog W 0 _ false m1 3 _ = some x1 from h1)
    obtain ⟨k2, e2, d2, _⟩ := DataW.trod_int Tryz.underlying3 (show DataW.trod _ Tryz.prog W 0 _ false m1 3 _ = some x2 from h2)
    have hk0 : k0 = 1 := by rw [d0] at hx1; simpa using hx1.1.1.symm
    have hk1 : k1 = 2 := by rw [d1] at hx1; simpa using hx1.1.2.1.symm
    have hk2 : k2 = 4 := by rw [d2] at hx1; simpa using hx1.1.2.2.1.symm
    subst hk0 hk1 hk2
    have v0 := World.var?_cell hg0 hv0 0
    have v1 := World.var?_cell hg0 hv0 1
    have v2 := World.var?_cell hg0 hv0 2
    obtain ⟨l1⟩ := cs0
    rw [c3] at e0 e1 e2
    match l1, e0, e1, e2 with
    | y0 :: y1 :: y2 :: _, e0, e1, e2 =>
      simp at e0 e1 e2
      subst e0 e1 e2
      exact ⟨by simpa using v0, by simpa using v1, by simpa using v2⟩
end Go.Proofs.YtlanfceilajifaaGreatDoor
