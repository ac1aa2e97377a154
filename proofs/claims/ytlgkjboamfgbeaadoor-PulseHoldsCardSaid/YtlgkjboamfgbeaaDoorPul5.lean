/- pulse: the deferred functions of Begin and ask. -/
import Derived.Test.YtlgkjboamfgbeaaDoorPul4
import Derived.RegionTactic
namespace Go.Proofs.YtlgkjboamfgbeaaDoor
set_option linter.unusedVariables false
set_option linter.unusedSimpArgs false
open Go.RowKit
set_option maxRecDepth 100000

set_option maxHeartbeats 1000000 in
theorem begin_idle (b d : Nat) (w : World) :
    CallsD Tryd.prog 23 #[.pointer (some ⟨b, 0, none⟩), .pointer (some ⟨d, 0, none⟩)] .returning w fun e u' w' => e = .returned (.tuple #[]) ∧ u' = .returning ∧ w' = w.alloc (.cells #[.int .i64 0] 55) := by
  have hta : ∀ w, (Instr.typeAssert .nilIface 20 55 true).run Tryd.prog w = .ok (.tuple #[.agg #[.int .i64 0], .bool false]) w := fun _ => by kernel_rfl
  refine callsD_of_wpS Tryd.func23 rfl fun c₀ cs hu => ?_
  simp only [Tryd.ntmps23, List.size_toArray, List.length_cons, List.length_nil, Nat.reduceAdd, Nat.reduceSub, Array.replicate_succ, Array.replicate_zero, List.push_toArray, List.append_toArray, List.nil_append, List.cons_append]
  apply wpS_seq
  apply wpS_region
  simp [wpOpsS, go_sem, recoverD, hu, Exit.thenS, hta]
  refine wpS_of_wp ?_
  go_wp2
  cases c₀
  simp_all [bodyPostS, results, Tryd.results23]

set_option maxHeartbeats 2000000 in
theorem begin_pan (b d : Nat) (o0 o1 o2 o3 : Value) (x : Int) (older : List PanicEntry) (w : World) (hb : Blk w b 28 #[o0, o1, o2]) (hd : Blk w d 29 #[o3]) (nbd : ¬ b = d) (ndb : ¬ d = b) :
    CallsD Tryd.prog 23 #[.pointer (some ⟨b, 0, none⟩), .pointer (some ⟨d, 0, none⟩)] (.panicking ({ v := .iface 55 (.agg #[.int .i64 x]), recovered := false } :: older)) w fun e u' w' => e = .returned (.tuple #[]) ∧ u' = .panicking ({ v := .iface 55 (.agg #[.int .i64 x]), recovered := true } :: older) ∧
      (Blk w' b 28 #[.int .i64 0, .int .i64 0, .bool false] ∧ Blk w' d 29 #[.int .i64 x] ∧ ∀ m, m ≤ b → m ≤ d → Below m w w') := by
  have hta : ∀ w, (Instr.typeAssert (.iface 55 (.agg #[.int .i64 x])) 20 55 true).run Tryd.prog w = .ok (.tuple #[.agg #[.int .i64 x], .bool true]) w := fun _ => by kernel_rfl
  have zb := hb.alloc (.cells #[.int .i64 x] 55)
  have lb := hb.lt
  have zd := hd.alloc (.cells #[.int .i64 x] 55)
  have ld := hd.lt
  have zf := Blk.new w 55 #[.int .i64 x]
  have cb0 := (zb).cell 0
  have cb1 := (zb).cell 1
  have cb2 := (zb).cell 2
  simp only [List.getElem?_toArray, List.getElem?_cons_zero, List.getElem?_cons_succ] at cb0 cb1 cb2
  have fb0 := zb.frozen 0
  have fb1 := zb.frozen 1
  have fb2 := zb.frozen 2
  have cd0 := (zd).cell 0
  simp only [List.getElem?_toArray, List.getElem?_cons_zero, List.getElem?_cons_succ] at cd0
  have fd0 := zd.frozen 0
  have B0 : ∀ m, m ≤ w.heap.size → Below m w (w.alloc (.cells #[.int .i64 x] 55)) := fun m hm => (Below.refl m w).alloc hm _
  have cf0 := (zf).cell 0
  simp only [List.getElem?_toArray, List.getElem?_cons_zero, List.getElem?_cons_succ] at cf0
  generalize hw0 : w.alloc (.cells #[.int .i64 x] 55) = w0 at *
  have HW0 := Lib.hid hw0
  clear hw0
  have Hb := Lib.hid zb
  clear zb hb
  have Hd := Lib.hid zd
  clear zd hd
  clear zf
  refine callsD_of_wpS Tryd.func23 rfl fun c₀ cs hu => ?_
  simp only [Tryd.ntmps23, List.size_toArray, List.length_cons, List.length_nil, Nat.reduceAdd, Nat.reduceSub, Array.replicate_succ, Array.replicate_zero, List.push_toArray, List.append_toArray, List.nil_append, List.cons_append]
  apply wpS_seq
  apply wpS_region
  simp [wpOpsS, go_sem, recoverD, hu, Exit.thenS, hta]
  simp only [HW0.out]
  refine wpS_of_wp ?_
  go_wp2
  go_region
  go_wp2

  have qb : Blk ((((w0.setCell ⟨b, 0, none⟩ (.int .i64 0)).setCell ⟨b, 1, none⟩ (.int .i64 0)).setCell ⟨b, 2, none⟩ (.bool false)).setCell ⟨d, 0, none⟩ (.int .i64 x)) b 28 #[.int .i64 0, .int .i64 0, .bool false] := by
    have := ((((Hb.out).set 0 (.int .i64 0)).set 1 (.int .i64 0)).set 2 (.bool false)).far (p := ⟨d, 0, none⟩) nbd (.int .i64 x)
    simpa using this
  have qd : Blk ((((w0.setCell ⟨b, 0, none⟩ (.int .i64 0)).setCell ⟨b, 1, none⟩ (.int .i64 0)).setCell ⟨b, 2, none⟩ (.bool false)).setCell ⟨d, 0, none⟩ (.int .i64 x)) d 29 #[.int .i64 x] := by
    have := ((((Hd.out).far (p := ⟨b, 0, none⟩) ndb (.int .i64 0)).far (p := ⟨b, 1, none⟩) ndb (.int .i64 0)).far (p := ⟨b, 2, none⟩) ndb (.bool false)).set 0 (.int .i64 x)
    simpa using this
  have qB : ∀ m, m ≤ b → m ≤ d → Below m w ((((w0.setCell ⟨b, 0, none⟩ (.int .i64 0)).setCell ⟨b, 1, none⟩ (.int .i64 0)).setCell ⟨b, 2, none⟩ (.bool false)).setCell ⟨d, 0, none⟩ (.int .i64 x)) := fun m lb' ld' => ((((((B0 m (by omega))).setCell (p := ⟨b, 0, none⟩) lb' _).setCell (p := ⟨b, 1, none⟩) lb' _).setCell (p := ⟨b, 2, none⟩) lb' _).setCell (p := ⟨d, 0, none⟩) ld' _)
  generalize ((((w0.setCell ⟨b, 0, none⟩ (.int .i64 0)).setCell ⟨b, 1, none⟩ (.int .i64 0)).setCell ⟨b, 2, none⟩ (.bool false)).setCell ⟨d, 0, none⟩ (.int .i64 x)) = wz at *
  cases c₀
  simp only [bodyPostS]
  exact ⟨trivial, _, rfl, _, results_none rfl _ _ _, rfl, rfl, qb.drewN 1, qd.drewN 1, fun m lb' ld' => below_drewN (qB m lb' ld') 1⟩

set_option maxHeartbeats 1000000 in
theorem ask_idle (b c d : Nat) (w : World) :
    CallsD Tryd.prog 52 #[.pointer (some ⟨b, 0, none⟩), .pointer (some ⟨c, 0, none⟩), .pointer (some ⟨d, 0, none⟩)] .returning w fun e u' w' => e = .returned (.tuple #[]) ∧ u' = .returning ∧ w' = w.alloc (.cells #[.int .i64 0] 55) := by
  have hta : ∀ w, (Instr.typeAssert .nilIface 20 55 true).run Tryd.prog w = .ok (.tuple #[.agg #[.int .i64 0], .bool false]) w := fun _ => by kernel_rfl
  refine callsD_of_wpS Tryd.func52 rfl fun c₀ cs hu => ?_
  simp only [Tryd.ntmps52, List.size_toArray, List.length_cons, List.length_nil, Nat.reduceAdd, Nat.reduceSub, Array.replicate_succ, Array.replicate_zero, List.push_toArray, List.append_toArray, List.nil_append, List.cons_append]
  apply wpS_seq
  apply wpS_region
  simp [wpOpsS, go_sem, recoverD, hu, Exit.thenS, hta]
  refine wpS_of_wp ?_
  go_wp2
  cases c₀
  simp_all [bodyPostS, results, Tryd.results52]

set_option maxHeartbeats 2000000 in
theorem ask_pan (b c d : Nat) (o0 o1 o2 o3 o4 : Value) (x : Int) (older : List PanicEntry) (w : World) (hb : Blk w b 28 #[o0, o1, o2]) (hc : Blk w c 36 #[o4]) (hd : Blk w d 29 #[o3]) (nbc : ¬ b = c) (nbd : ¬ b = d) (ncb : ¬ c = b) (ncd : ¬ c = d) (ndb : ¬ d = b) (ndc : ¬ d = c) :
    CallsD Tryd.prog 52 #[.pointer (some ⟨b, 0, none⟩), .pointer (some ⟨c, 0, none⟩), .pointer (some ⟨d, 0, none⟩)] (.panicking ({ v := .iface 55 (.agg #[.int .i64 x]), recovered := false } :: older)) w fun e u' w' => e = .returned (.tuple #[]) ∧ u' = .panicking ({ v := .iface 55 (.agg #[.int .i64 x]), recovered := true } :: older) ∧
      (Blk w' b 28 #[.int .i64 0, .int .i64 0, .bool false] ∧ Blk w' c 36 #[.int .i64 0] ∧ Blk w' d 29 #[.int .i64 x] ∧ ∀ m, m ≤ b → m ≤ c → m ≤ d → Below m w w') := by
  have hta : ∀ w, (Instr.typeAssert (.iface 55 (.agg #[.int .i64 x])) 20 55 true).run Tryd.prog w = .ok (.tuple #[.agg #[.int .i64 x], .bool true]) w := fun _ => by kernel_rfl
  have zb := hb.alloc (.cells #[.int .i64 x] 55)
  have lb := hb.lt
  have zc := hc.alloc (.cells #[.int .i64 x] 55)
  have lc := hc.lt
  have zd := hd.alloc (.cells #[.int .i64 x] 55)
  have ld := hd.lt
  have zf := Blk.new w 55 #[.int .i64 x]
  have cb0 := (zb).cell 0
  have cb1 := (zb).cell 1
  have cb2 := (zb).cell 2
  simp only [List.getElem?_toArray, List.getElem?_cons_zero, List.getElem?_cons_succ] at cb0 cb1 cb2
  have fb0 := zb.frozen 0
  have fb1 := zb.frozen 1
  have fb2 := zb.frozen 2
  have cc0 := (zc).cell 0
  simp only [List.getElem?_toArray, List.getElem?_cons_zero, List.getElem?_cons_succ] at cc0
  have fc0 := zc.frozen 0
  have cd0 := (zd).cell 0
  simp only [List.getElem?_toArray, List.getElem?_cons_zero, List.getElem?_cons_succ] at cd0
  have fd0 := zd.frozen 0
  have B0 : ∀ m, m ≤ w.heap.size → Below m w (w.alloc (.cells #[.int .i64 x] 55)) := fun m hm => (Below.refl m w).alloc hm _
  have cf0 := (zf).cell 0
  simp only [List.getElem?_toArray, List.getElem?_cons_zero, List.getElem?_cons_succ] at cf0
  generalize hw0 : w.alloc (.cells #[.int .i64 x] 55) = w0 at *
  have HW0 := Lib.hid hw0
  clear hw0
  have Hb := Lib.hid zb
  clear zb hb
  have Hc := Lib.hid zc
  clear zc hc
  have Hd := Lib.hid zd
  clear zd hd
  clear zf
  refine callsD_of_wpS Tryd.func52 rfl fun c₀ cs hu => ?_
  simp only [Tryd.ntmps52, List.size_toArray, List.length_cons, List.length_nil, Nat.reduceAdd, Nat.reduceSub, Array.replicate_succ, Array.replicate_zero, List.push_toArray, List.append_toArray, List.nil_append, List.cons_append]
  apply wpS_seq
  apply wpS_region
  simp [wpOpsS, go_sem, recoverD, hu, Exit.thenS, hta]
  simp only [HW0.out]
  refine wpS_of_wp ?_
  go_wp2
  go_region
  go_wp2

  have qb : Blk (((((w0.setCell ⟨b, 0, none⟩ (.int .i64 0)).setCell ⟨b, 1, none⟩ (.int .i64 0)).setCell ⟨b, 2, none⟩ (.bool false)).setCell ⟨c, 0, none⟩ (.int .i64 0)).setCell ⟨d, 0, none⟩ (.int .i64 x)) b 28 #[.int .i64 0, .int .i64 0, .bool false] := by
    have := (((((Hb.out).set 0 (.int .i64 0)).set 1 (.int .i64 0)).set 2 (.bool false)).far (p := ⟨c, 0, none⟩) nbc (.int .i64 0)).far (p := ⟨d, 0, none⟩) nbd (.int .i64 x)
    simpa using this
  have qc : Blk (((((w0.setCell ⟨b, 0, none⟩ (.int .i64 0)).setCell ⟨b, 1, none⟩ (.int .i64 0)).setCell ⟨b, 2, none⟩ (.bool false)).setCell ⟨c, 0, none⟩ (.int .i64 0)).setCell ⟨d, 0, none⟩ (.int .i64 x)) c 36 #[.int .i64 0] := by
    have := (((((Hc.out).far (p := ⟨b, 0, none⟩) ncb (.int .i64 0)).far (p := ⟨b, 1, none⟩) ncb (.int .i64 0)).far (p := ⟨b, 2, none⟩) ncb (.bool false)).set 0 (.int .i64 0)).far (p := ⟨d, 0, none⟩) ncd (.int .i64 x)
    simpa using this
  have qd : Blk (((((w0.setCell ⟨b, 0, none⟩ (.int .i64 0)).setCell ⟨b, 1, none⟩ (.int .i64 0)).setCell ⟨b, 2, none⟩ (.bool false)).setCell ⟨c, 0, none⟩ (.int .i64 0)).setCell ⟨d, 0, none⟩ (.int .i64 x)) d 29 #[.int .i64 x] := by
    have := (((((Hd.out).far (p := ⟨b, 0, none⟩) ndb (.int .i64 0)).far (p := ⟨b, 1, none⟩) ndb (.int .i64 0)).far (p := ⟨b, 2, none⟩) ndb (.bool false)).far (p := ⟨c, 0, none⟩) ndc (.int .i64 0)).set 0 (.int .i64 x)
    simpa using this
  have qB : ∀ m, m ≤ b → m ≤ c → m ≤ d → Below m w (((((w0.setCell ⟨b, 0, none⟩ (.int .i64 0)).setCell ⟨b, 1, none⟩ (.int .i64 0)).setCell ⟨b, 2, none⟩ (.bool false)).setCell ⟨c, 0, none⟩ (.int .i64 0)).setCell ⟨d, 0, none⟩ (.int .i64 x)) := fun m lb' lc' ld' => (((((((B0 m (by omega))).setCell (p := ⟨b, 0, none⟩) lb' _).setCell (p := ⟨b, 1, none⟩) lb' _).setCell (p := ⟨b, 2, none⟩) lb' _).setCell (p := ⟨c, 0, none⟩) lc' _).setCell (p := ⟨d, 0, none⟩) ld' _)
  generalize (((((w0.setCell ⟨b, 0, none⟩ (.int .i64 0)).setCell ⟨b, 1, none⟩ (.int .i64 0)).setCell ⟨b, 2, none⟩ (.bool false)).setCell ⟨c, 0, none⟩ (.int .i64 0)).setCell ⟨d, 0, none⟩ (.int .i64 x)) = wz at *
  cases c₀
  simp only [bodyPostS]
  exact ⟨trivial, _, rfl, _, results_none rfl _ _ _, rfl, rfl, qb.drewN 1, qc.drewN 1, qd.drewN 1, fun m lb' lc' ld' => below_drewN (qB m lb' lc' ld') 1⟩

end Go.Proofs.YtlgkjboamfgbeaaDoor
