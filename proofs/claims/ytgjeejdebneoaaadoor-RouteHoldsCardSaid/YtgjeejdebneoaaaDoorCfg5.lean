/- config: Check, Wait, Quiet, Bound. -/
import Derived.Test.YtgjeejdebneoaaaDoorCfg4
import Derived.Defers
import Derived.Recover
import Derived.Laws.Pointers
import Derived.WalkLawsBesides
namespace Go.Proofs.YtgjeejdebneoaaaDoor
set_option linter.unusedVariables false
set_option linter.unusedSimpArgs false
open Go.RowKit
set_option maxRecDepth 100000

theorem caught_stop (v : Int) (b : Nat) (o : Value) (w : World) (hb : Blk w b 36 #[o]) :
    Calls Tryd.prog 71 #[.iface 119 (.int .i64 v), .pointer (some ⟨b, 0, none⟩)] w fun e w' => e = .returned (.bool true) ∧ w' = w.setCell ⟨b, 0, none⟩ (.int .i64 v) := by
  have hta : ∀ w, (Instr.typeAssert (.iface 119 (.int .i64 v)) 20 119 true).run Tryd.prog w = .ok (.tuple #[.int .i64 v, .bool true]) w := fun _ => by kernel_rfl
  have h0 := hb.cell 0
  have f0 := hb.frozen 0
  simp only [List.getElem?_toArray, List.getElem?_cons_zero] at h0
  clear hb
  go_enter Tryd.func71, Tryd.ntmps71
  go_wp2
  go_ret
  exact ⟨rfl, rfl⟩
theorem caught_nil (p : Value) (w : World) :
    Calls Tryd.prog 71 #[.nilIface, p] w fun e w' => e = .returned (.bool false) ∧ w' = w := by
  have hta : ∀ w, (Instr.typeAssert .nilIface 20 119 true).run Tryd.prog w = .ok (.tuple #[.int .i64 0, .bool false]) w := fun _ => by kernel_rfl
  go_enter Tryd.func71, Tryd.ntmps71
  go_wp2
  go_ret
  exact ⟨rfl, rfl⟩

set_option maxHeartbeats 1000000 in
theorem chk_idle (b : Nat) (w : World) :
    CallsD Tryd.prog 70 #[.pointer (some ⟨b, 0, none⟩)] .returning w fun e u' w' => e = .returned (.tuple #[]) ∧ u' = .returning ∧ w' = w := by
  refine callsD_of_wpS Tryd.func70 rfl fun c₀ cs hu => ?_
  simp only [Tryd.ntmps70, List.size_toArray, List.length_cons, List.length_nil, Nat.reduceAdd, Nat.reduceSub, Array.replicate_succ, Array.replicate_zero, List.push_toArray, List.append_toArray, List.nil_append, List.cons_append]
  apply wpS_region
  simp [wpOpsS, go_sem, recoverD, hu, Exit.thenS]
  refine (caught_nil _ _).mono ?_
  rintro e w' ⟨rfl, rfl⟩
  cases c₀
  simp_all [bodyPostS, results, Tryd.results70]

set_option maxHeartbeats 1000000 in
theorem chk_pan (b : Nat) (o : Value) (n : Int) (older : List PanicEntry) (w : World) (hb : Blk w b 36 #[o]) :
    CallsD Tryd.prog 70 #[.pointer (some ⟨b, 0, none⟩)] (.panicking ({ v := .iface 119 (.int .i64 n), recovered := false } :: older)) w fun e u' w' => e = .returned (.tuple #[]) ∧ u' = .panicking ({ v := .iface 119 (.int .i64 n), recovered := true } :: older) ∧ w' = w.setCell ⟨b, 0, none⟩ (.int .i64 n) := by
  refine callsD_of_wpS Tryd.func70 rfl fun c₀ cs hu => ?_
  simp only [Tryd.ntmps70, List.size_toArray, List.length_cons, List.length_nil, Nat.reduceAdd, Nat.reduceSub, Array.replicate_succ, Array.replicate_zero, List.push_toArray, List.append_toArray, List.nil_append, List.cons_append]
  apply wpS_region
  simp [wpOpsS, go_sem, recoverD, hu, Exit.thenS]
  refine (caught_stop n b o w hb).mono ?_
  rintro e w' ⟨rfl, rfl⟩
  cases c₀
  simp only [bodyPostS]
  exact ⟨trivial, _, rfl, _, results_none rfl _ _ _, rfl, by simp⟩

theorem mustE_f : mustE false = .panicked [{ v := .iface 119 (.int .i64 2), recovered := false }] := rfl
theorem mustE_t : mustE true = .returned (.tuple #[]) := rfl
/-- the error of a configuration -/
def errC (ok : Bool) : Int := if ok then 0 else 2

set_option maxHeartbeats 1000000 in
theorem ccheck_any (p j t h g q s cp : Int) (A : Option Addr) (n k B : Nat) (l : List (Nat × Int)) (hn : l.length = n) (w : World) (hr : Rd w B A (plC l)) (hB : B ≤ w.heap.size) (hnk : n ≤ k) (hk : k ≤ 9223372036854775807) (hl : ∀ x ∈ l, x.1 < 4294967296) (hw : CapsAt w) :
    Calls Tryd.prog 53 #[.agg #[.int .i64 p, .int .i64 j, .int .i64 t, .int .i64 h, .int .i64 g, .int .i64 q, .int .i64 s, .int .i64 cp, .slice A n k]] w fun e w' => e = .returned (.int .i64 (errC (okC p j t h g q s cp l))) ∧ Below w.heap.size w w' := by
  have B0 : Below w.heap.size w ((w.alloc (.cells #[.int .i64 p, .int .i64 j, .int .i64 t, .int .i64 h, .int .i64 g, .int .i64 q, .int .i64 s, .int .i64 cp, .slice A n k] 24)).alloc (.cells #[.int .i64 0] 36)) := balloc (balloc (Below.refl _ _) _) _
  have x1 := Blk.new (w.alloc (.cells #[.int .i64 p, .int .i64 j, .int .i64 t, .int .i64 h, .int .i64 g, .int .i64 q, .int .i64 s, .int .i64 cp, .slice A n k] 24)) 36 #[.int .i64 0]
  rw [World.size_alloc] at x1
  have CM := Lib.hid (mustBe_any p j t h g q s cp A n k B l hn ((w.alloc (.cells #[.int .i64 p, .int .i64 j, .int .i64 t, .int .i64 h, .int .i64 g, .int .i64 q, .int .i64 s, .int .i64 cp, .slice A n k] 24)).alloc (.cells #[.int .i64 0] 36)) (hr.below (B0.mono hB)) (by simp; omega) hnk hk hl (hw.below B0))
  have X1 := Lib.hid x1
  have HB0 := Lib.hid B0
  have hmf : ∀ (fn : Fn) (first cap : Array Value) (w : World), (Instr.makeFunc fn first cap).run Tryd.prog w = .ok (.func fn first cap) w := fun _ _ _ _ => rfl
  clear hr hl hw x1 B0
  generalize okC p j t h g q s cp l = ok at *
  cases ok
  · rw [mustE_f] at CM
    go_enter_defers Tryd.func53, Tryd.ntmps53
    go_wp2_with fail
    refine CM.out.mono ?_
    rintro e w1 ⟨rfl, hb⟩
    go_wp2_with fail
    refine leaves_cons (f := 70) (args := #[.pointer (some ⟨w.heap.size + 1, 0, none⟩)]) (by simp) (by simp [go_sem]) ?_
    with_reducible refine (chk_pan (w.heap.size + 1) (.int .i64 0) 2 [] _ (X1.out.below hb X1.out.lt)).mono ?_
    rintro e u' wz ⟨rfl, rfl, rfl⟩
    have z := (X1.out.below hb X1.out.lt).set 0 (.int .i64 2)
    have z0 := z.cell 0
    simp only [List.setIfInBounds_toArray, List.set_cons_zero, List.getElem?_toArray, List.getElem?_cons_zero] at z0
    have bz := (bnext HB0.out hb).setCell (p := ⟨w.heap.size + 1, 0, none⟩) (by show w.heap.size ≤ w.heap.size + 1; omega) (.int .i64 2)
    simp [Leaves, settle, results, Tryd.results53, go_sem, z0, errC]
    exact bz
  · rw [mustE_t] at CM
    go_enter_defers Tryd.func53, Tryd.ntmps53
    go_wp2_with fail
    refine CM.out.mono ?_
    rintro e w1 ⟨rfl, hb⟩
    have hE := X1.out.below hb X1.out.lt
    have e0 := hE.cell 0
    have f0 := hE.frozen 0
    simp only [List.getElem?_toArray, List.getElem?_cons_zero] at e0
    go_wp2_with fail
    refine leaves_cons (f := 70) (args := #[.pointer (some ⟨w.heap.size + 1, 0, none⟩)]) (by simp) (by simp [go_sem]) ?_
    with_reducible refine (chk_idle (w.heap.size + 1) _).mono ?_
    rintro e u' wz ⟨rfl, rfl, rfl⟩
    have z := hE.set 0 (.int .i64 0)
    have z0 := z.cell 0
    simp only [List.setIfInBounds_toArray, List.set_cons_zero, List.getElem?_toArray, List.getElem?_cons_zero] at z0
    have bz := (bnext HB0.out hb).setCell (p := ⟨w.heap.size + 1, 0, none⟩) (by show w.heap.size ≤ w.heap.size + 1; omega) (.int .i64 0)
    simp [Leaves, settle, results, Tryd.results53, go_sem, z0, errC]
    exact bz
end Go.Proofs.YtgjeejdebneoaaaDoor
