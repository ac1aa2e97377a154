/- The widths and the table of relations: what the rows' condition on both gives a walk, and a world that meets it. -/
import Derived.Test.YtlanfceilajifaaGreatDoorMG
import Derived.Test.YtlanfceilajifaaGreatDoorLaid3
import Derived.Test.YtlanfceilajifaaGreatDoorRows
import Derived.ProofKit
import Derived.OpenShut
import Derived.ShutString
import Derived.ChangeOld
import Derived.LaidMore
import Derived.Stop.Joined
import Derived.SevenTiedAt
namespace Go.Proofs.YtlanfceilajifaaGreatDoor
set_option linter.unusedVariables false
set_option linter.unusedSimpArgs false
open Go.ChangeShapes Go.WideShapes Go.ChangeAt Go.RowKit
open Go.ChangeMaps (open_string shut_string)
set_option linter.unusedVariables false
set_option maxRecDepth 100000

theorem gRels : Tryz.prog.globalNamed "waywarden/prefix.rels" = some 0 := by kernel_rfl
theorem tRels : (Tryz.prog.globals[0]?).map (·.type) = some 150 := by kernel_rfl

theorem laid_one {P : Program} {n m : String} {d e : DataW Unit} {W : World} (h : laidMet P [(n, d), (m, e)] W) : laidMet P [(n, d)] W := by
  obtain ⟨ps, ⟨g, t, cs, fuel, p, q, h1, h2, h3, h4, _, rfl⟩, hn, hc⟩ := h
  exact ⟨_, ⟨g, t, cs, fuel, p, [], h1, h2, h3, h4, rfl, rfl⟩, by rw [List.append_nil]; exact (List.nodup_append.1 hn).1, fun b off hm => hc b off (by rw [List.append_nil] at hm; exact List.mem_append_left _ hm)⟩
theorem laid_two {P : Program} {n m : String} {d e : DataW Unit} {W : World} (h : laidMet P [(n, d), (m, e)] W) : laidMet P [(m, e)] W := by
  obtain ⟨ps, ⟨g, t, cs, fuel, p, q, h1, h2, h3, h4, hr, rfl⟩, hn, hc⟩ := h
  exact ⟨q, hr, (List.nodup_append.1 hn).2.1, fun b off hm => hc b off (List.mem_append_right _ hm)⟩
theorem door16 (os : Os) (args : Array Value) : laidMetH Tryz.prog [("waywarden/octet.widths", Rows.laid_waywarden_octet_widths), ("waywarden/prefix.rels", Rows.laid_waywarden_prefix_rels)] ((World.doorLaid Tryz.prog 400 os).forCall (fun _ _ => 0) ⟨#[], args, []⟩).memory :=
  laidMetH_of_parts3 (fuel := 8) (laidMet_of_run' 8 (by kernel_rfl) (by kernel_rfl)) (by kernel_rfl) (by kernel_rfl)

section
variable {H : Type} {enc : TypeId × Value → H} {w : World} {base : Nat} {spare : Nat → Bool} {held : Bool}
theorem rel_row {fuel : Nat} {cs : List Value} {y : DataW H × List MemPlace} {a b : Int} (h : DataW.trod enc Tryz.prog w base spare held fuel 149 cs = some y) (hy : y.1 = .agg [.lit (.int .i64 a), .lit (.int .i64 b)]) : cs = [.int .i64 a, .int .i64 b] := by
  obtain ⟨xs, m1, hm, hx1, hlen, hn3, hel⟩ := DataW.trod_array Tryz.underlying149 h
  have c3 : Tryz.prog.cellsOf 97 = 1 := by kernel_rfl
  rw [show Tryz.prog.cellsOf 149 = 2 by kernel_rfl] at hlen
  have h0 := hel 0 (by decide)
  have h1 := hel 1 (by decide)
  match xs, hn3, hx1, h0, h1 with
  | [x0, x1], _, hx1, h0, h1 =>
    obtain ⟨k0, e0, d0, _⟩ := DataW.trod_int Tryz.underlying97 h0
    obtain ⟨k1, e1, d1, _⟩ := DataW.trod_int Tryz.underlying97 h1
    rw [hx1] at hy
    simp only [List.map_cons, List.map_nil, DataW.agg.injEq, List.cons.injEq] at hy
    rw [d0, d1] at hy
    have hk0 : k0 = a := by simpa using hy.1
    have hk1 : k1 = b := by simpa using hy.2.1
    subst hk0 hk1
    rw [c3] at e0 e1
    match cs, hlen, e0, e1 with
    | [y0, y1], _, e0, e1 =>
      simp at e0 e1
      rw [e0, e1]
end
theorem rels_of_laid {W : World} (h : laidMetH Tryz.prog [("waywarden/prefix.rels", Rows.laid_waywarden_prefix_rels)] W) : RelsAt W := by
  rw [MakeChecks.laidMetH_plain _ _ _ (by kernel_rfl)] at h
  obtain ⟨ps, ⟨g0, t0, cs0, f0, p0, q0, hg0, ht0, hv0, hd0, _, _⟩, _, _⟩ := h
  obtain rfl := Option.some.inj (gRels.symm.trans hg0)
  obtain rfl := Option.some.inj (tRels.symm.trans ht0)
  obtain ⟨xs, m1, rfl, hx1, hlen, hn3, hel⟩ := DataW.trod_array Tryz.underlying150 hd0
  have c2 : Tryz.prog.cellsOf 149 = 2 := by kernel_rfl
  rw [show Tryz.prog.cellsOf 150 = 4 by kernel_rfl] at hlen
  simp only [Prod.mk.injEq, Rows.laid_waywarden_prefix_rels, DataW.agg.injEq] at hx1
  have h0 := hel 0 (by decide)
  have h1 := hel 1 (by decide)
  rw [c2] at h0 h1
  match xs, hn3, hx1, h0, h1 with
  | [x0, x1], _, hx1, h0, h1 =>
    simp only [List.map_cons, List.map_nil, List.cons.injEq] at hx1
    have r0 := rel_row h0 hx1.1.1.symm
    have r1 := rel_row h1 hx1.1.2.1.symm
    have v0 := World.var?_cell hg0 hv0 0
    have v1 := World.var?_cell hg0 hv0 1
    have v2 := World.var?_cell hg0 hv0 2
    have v3 := World.var?_cell hg0 hv0 3
    obtain ⟨l1⟩ := cs0
    match l1, hlen, r0, r1 with
    | [y0, y1, y2, y3], _, r0, r1 =>
      simp at r0 r1
      obtain ⟨rfl, rfl⟩ := r0
      obtain ⟨rfl, rfl⟩ := r1
      exact ⟨by simpa using v0, by simpa using v1, by simpa using v2, by simpa using v3⟩
theorem both16 {W : World} (h : laidMetH Tryz.prog [("waywarden/octet.widths", Rows.laid_waywarden_octet_widths), ("waywarden/prefix.rels", Rows.laid_waywarden_prefix_rels)] W) : WidthsAt W ∧ RelsAt W := by
  rw [MakeChecks.laidMetH_plain _ _ _ (by kernel_rfl)] at h
  exact ⟨widths_of_laid (by rw [MakeChecks.laidMetH_plain _ _ _ (by kernel_rfl)]; exact laid_one h), rels_of_laid (by rw [MakeChecks.laidMetH_plain _ _ _ (by kernel_rfl)]; exact laid_two h)⟩
end Go.Proofs.YtlanfceilajifaaGreatDoor
