/- The bounds of Cap: what the rows' condition on them gives a walk, and a world that meets it; a configuration that comes in by value. -/
import Derived.Test.YtgjeejdebneoaaaDoorCfg4
import Derived.ProofKit
import Derived.OpenShut
import Derived.ShutString
import Derived.ChangeOld
import Derived.LaidMore
import Derived.Stop.Joined
import Derived.SevenTiedAt
import Derived.Deep.SlicePairs
namespace Go.Proofs.YtgjeejdebneoaaaDoor
set_option linter.unusedVariables false
set_option linter.unusedSimpArgs false
open Go.ChangeShapes Go.WideShapes Go.ChangeAt Go.RowKit
open Go.ChangeMaps (open_string shut_string)
set_option linter.unusedVariables false
set_option maxRecDepth 100000

theorem own : ownKnob Tryd.prog.godebug = none := by kernel_rfl
theorem laidOut : laidOutB Tryd.prog = true := by kernel_rfl
theorem gCaps : Tryd.prog.globalNamed "waywarden/config.capBounds" = some 0 := by kernel_rfl
theorem tCaps : (Tryd.prog.globals[0]?).map (·.type) = some 128 := by kernel_rfl

theorem door_caps (os : Os) (args : Array Value) : laidMetH Tryd.prog [("waywarden/config.capBounds", Rows.laid_waywarden_config_capBounds)] ((World.doorLaid Tryd.prog 400 os).forCall (fun _ _ => 0) ⟨#[], args, []⟩).memory :=
  laidMetH_of_parts3 (fuel := 8) (laidMet_of_run' 8 (by kernel_rfl) (by kernel_rfl)) (by kernel_rfl) (by kernel_rfl)

theorem caps_of_laid {W : World} (h : laidMetH Tryd.prog [("waywarden/config.capBounds", Rows.laid_waywarden_config_capBounds)] W) : CapsAt W := by
  rw [MakeChecks.laidMetH_plain _ _ _ (by kernel_rfl)] at h
  obtain ⟨ps, ⟨g0, t0, cs0, f0, p0, q0, hg0, ht0, hv0, hd0, _, _⟩, _, _⟩ := h
  obtain rfl := Option.some.inj (gCaps.symm.trans hg0)
  obtain rfl := Option.some.inj (tCaps.symm.trans ht0)
  obtain ⟨xs, m1, rfl, hx1, hlen, hn3, hel⟩ := DataW.trod_array Tryd.underlying128 hd0
  have c3 : Tryd.prog.cellsOf 3 = 1 := by kernel_rfl
  simp only [Prod.mk.injEq, Rows.laid_waywarden_config_capBounds, DataW.agg.injEq] at hx1
  have h0 := hel 0 (by decide)
  have h1 := hel 1 (by decide)
  match xs, hn3, hx1, h0, h1 with
  | [x0, x1], _, hx1, h0, h1 =>
    simp only [List.map_cons, List.map_nil, List.cons.injEq] at hx1
    obtain ⟨k0, e0, d0, _⟩ := DataW.trod_int Tryd.underlying3 (show DataW.trod _ Tryd.prog W 0 _ false m1 3 _ = some x0 from h0)
    obtain ⟨k1, e1, d1, _⟩ := DataW.trod_int Tryd.underlying3 (show DataW.trod _ Tryd.prog W 0 _ false m1 3 _ = some x1 from h1)
    have hk0 : k0 = 1 := by rw [d0] at hx1; simpa using hx1.1.1.symm
    have hk1 : k1 = 256 := by rw [d1] at hx1; simpa using hx1.1.2.1.symm
    subst hk0 hk1
    have v0 := World.var?_cell hg0 hv0 0
    have v1 := World.var?_cell hg0 hv0 1
    obtain ⟨l1⟩ := cs0
    rw [c3] at e0 e1
    match l1, e0, e1 with
    | y0 :: y1 :: _, e0, e1 =>
      simp at e0 e1
      subst e0 e1
      exact ⟨by simpa using v0, by simpa using v1⟩
end Go.Proofs.YtgjeejdebneoaaaDoor
