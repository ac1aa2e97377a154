/- guard: the place of a reason; sums; counting, with its deferred function. -/
import Derived.Test.YtlanfceilajifaaGreatDoorGu1
namespace Go.Proofs.YtlanfceilajifaaGreatDoor
set_option linter.unusedVariables false
set_option linter.unusedSimpArgs false
open Go.RowKit
set_option maxRecDepth 100000
set_option maxHeartbeats 2000000 in
theorem place_rea (g : Nat) (r : Int) (w : World) :
    Calls Tryz.prog 98 #[.pointer (some ⟨g, 1, none⟩), .iface 52 (.int .i64 r)] w fun e' w' => e' = .returned (ptrO g (ixR r)) ∧ Below w.heap.size w w' := by
  have hta1 : ∀ w, (Instr.typeAssert (.iface 52 (.int .i64 r)) 20 29 true).run Tryz.prog w = .ok (.tuple #[.int .i64 0, .bool false]) w := fun _ => by kernel_rfl
  have hta2 : ∀ w, (Instr.typeAssert (.iface 52 (.int .i64 r)) 20 52 true).run Tryz.prog w = .ok (.tuple #[.int .i64 r, .bool true]) w := fun _ => by kernel_rfl
  by_cases h1 : 1 ≤ r
  case neg =>
    have d1 : decide (1 ≤ r) = false := by simpa using h1
    have e1 : ixR r = none := by unfold ixR; rw [if_neg (by omega)]
    rw [e1]
    clear h1 e1
    go_enter Tryz.func98, Tryz.ntmps98
    go_wp2_with fail
    go_ret
    exact ⟨rfl, Below.refl _ _⟩
  by_cases h2 : r ≤ 6
  case neg =>
    have d1 : decide (1 ≤ r) = true := by simpa using h1
    have d2 : decide (r ≤ 6) = false := by simpa using h2
    have e1 : ixR r = none := by unfold ixR; rw [if_neg (by omega)]
    rw [e1]
    clear h1 h2 e1
    go_enter Tryz.func98, Tryz.ntmps98
    go_wp2_with fail
    go_ret
    exact ⟨rfl, Below.refl _ _⟩
  rcases (by omega : r = 1 ∨ r = 2 ∨ r = 3 ∨ r = 4 ∨ r = 5 ∨ r = 6) with rfl | rfl | rfl | rfl | rfl | rfl
  all_goals
    clear h1 h2
    go_enter Tryz.func98, Tryz.ntmps98
    go_wp2_with fail
    go_ret
    exact ⟨rfl, Below.refl _ _⟩

/-- a sum that stops at the most -/
def sumF (a n : Int) : Int := if 2147483647 - a < n then 2147483647 else a + n
theorem sumF_in {a n : Int} (ha : 0 ≤ a ∧ a ≤ 2147483647) (hn : 0 ≤ n) : 0 ≤ sumF a n ∧ sumF a n ≤ 2147483647 := by
  unfold sumF; split <;> omega
set_option maxHeartbeats 1000000 in
theorem plus_any (a n : Int) (b : Nat) (w : World) (h : w.cell? ⟨b, 0, none⟩ = some (.int .i64 n)) (ha : 0 ≤ a ∧ a ≤ 2147483647) (hn : 0 ≤ n) :
    Calls Tryz.prog 99 #[.int .i64 a, .slice (some ⟨b, 0, none⟩) 1 1] w fun e w' => e = .returned (.int .i64 (sumF a n)) ∧ w = w' := by
  have hw1 : IntKind.i64.wrap (2147483647 - a) = 2147483647 - a := IntWalk.i64_in _ ⟨by omega, by omega⟩
  have HA := Lib.hid (And.intro ha hn)
  clear ha hn
  go_enter Tryz.func99, Tryz.ntmps99
  go_wp2_with fail
  go_loopw [0, 9] (fun hv iv wr => w = wr ∧ ((iv = .int .i64 0 ∧ hv = .int .i64 a) ∨ (iv = .int .i64 1 ∧ hv = .int .i64 (sumF a n)))) (fun _ iv _ => 1 - (intOf iv).toNat)
  case atStart => exact ⟨rfl, Or.inl ⟨rfl, rfl⟩⟩
  case round =>
    obtain ⟨rfl, ⟨rfl, rfl⟩ | ⟨rfl, rfl⟩⟩ := hrel
    · by_cases hgt : 2147483647 - a < n
      · have d1 : decide (2147483647 - a < n) = true := by simpa using hgt
        have e1 : sumF a n = 2147483647 := if_pos hgt
        have E1 := Lib.hid e1
        clear hgt e1
        go_wp2_with fail
        go_ret
        exact ⟨by rw [E1.out]; rfl, rfl⟩
      · have d1 : decide (2147483647 - a < n) = false := by simpa using hgt
        have hw2 : IntKind.i64.wrap (a + n) = a + n := IntWalk.i64_in _ ⟨by have := HA.out; omega, by have := HA.out; omega⟩
        have e1 : sumF a n = a + n := if_neg hgt
        have E1 := Lib.hid e1
        clear hgt e1
        go_wp2_with fail
        go_roundw
        case rel => rw [E1.out]; simp
        case measure => simp [intOf]
    · go_wp2_with fail
      go_ret
      exact ⟨rfl, rfl⟩

set_option maxHeartbeats 1000000 in
theorem cnt_idle (d : Nat) (w : World) :
    CallsD Tryz.prog 97 #[.pointer (some ⟨d, 0, none⟩)] .returning w fun e u' w' => e = .returned (.tuple #[]) ∧ u' = .returning ∧ w' = w.alloc (.cells #[.int .i64 0] 178) := by
  have hta : ∀ w, (Instr.typeAssert .nilIface 20 178 true).run Tryz.prog w = .ok (.tuple #[.agg #[.int .i64 0], .bool false]) w := fun _ => by kernel_rfl
  refine callsD_of_wpS Tryz.func97 rfl fun c₀ cs hu => ?_
  simp only [Tryz.ntmps97, List.size_toArray, List.length_cons, List.length_nil, Nat.reduceAdd, Nat.reduceSub, Array.replicate_succ, Array.replicate_zero, List.push_toArray, List.append_toArray, List.nil_append, List.cons_append]
  apply wpS_seq
  apply wpS_region
  simp [wpOpsS, go_sem, recoverD, hu, Exit.thenS, hta]
  refine wpS_of_wp ?_
  go_wp2
  cases c₀
  simp_all [bodyPostS, results, Tryz.results97]

set_option maxHeartbeats 2000000 in
theorem cnt_pan (d : Nat) (o3 : Value) (x : Int) (older : List PanicEntry) (w : World) (hd : Blk w d 29 #[o3]) :
    CallsD Tryz.prog 97 #[.pointer (some ⟨d, 0, none⟩)] (.panicking ({ v := .iface 178 (.agg #[.int .i64 x]), recovered := false } :: older)) w fun e u' w' => e = .returned (.tuple #[]) ∧ u' = .panicking ({ v := .iface 178 (.agg #[.int .i64 x]), recovered := true } :: older) ∧
      (Blk w' d 29 #[.int .i64 x] ∧ ∀ m, m ≤ d → Below m w w') := by
  have hta : ∀ w, (Instr.typeAssert (.iface 178 (.agg #[.int .i64 x])) 20 178 true).run Tryz.prog w = .ok (.tuple #[.agg #[.int .i64 x], .bool true]) w := fun _ => by kernel_rfl
  have zd := hd.alloc (.cells #[.int .i64 x] 178)
  have ld := hd.lt
  have zf := Blk.new w 178 #[.int .i64 x]
  have cd0 := (zd).cell 0
  simp only [List.getElem?_toArray, List.getElem?_cons_zero, List.getElem?_cons_succ] at cd0
  have fd0 := zd.frozen 0
  have B0 : ∀ m, m ≤ w.heap.size → Below m w (w.alloc (.cells #[.int .i64 x] 178)) := fun m hm => (Below.refl m w).alloc hm _
  have cf0 := (zf).cell 0
  simp only [List.getElem?_toArray, List.getElem?_cons_zero, List.getElem?_cons_succ] at cf0
  generalize hw0 : w.alloc (.cells #[.int .i64 x] 178) = w0 at *
  have HW0 := Lib.hid hw0
  clear hw0
  have Hd := Lib.hid zd
  clear zd hd
  clear zf
  refine callsD_of_wpS Tryz.func97 rfl fun c₀ cs hu => ?_
  simp only [Tryz.ntmps97, List.size_toArray, List.length_cons, List.length_nil, Nat.reduceAdd, Nat.reduceSub, Array.replicate_succ, Array.replicate_zero, List.push_toArray, List.append_toArray, List.nil_append, List.cons_append]
  apply wpS_seq
  apply wpS_region
  simp [wpOpsS, go_sem, recoverD, hu, Exit.thenS, hta]
  simp only [HW0.out]
  refine wpS_of_wp ?_
  go_wp2
  have qd : Blk (w0.setCell ⟨d, 0, none⟩ (.int .i64 x)) d 29 #[.int .i64 x] := by
    have := (Hd.out).set 0 (.int .i64 x)
    simpa using this
  have qB : ∀ m, m ≤ d → Below m w (w0.setCell ⟨d, 0, none⟩ (.int .i64 x)) := fun m ld' => ((B0 m (by omega)).setCell (p := ⟨d, 0, none⟩) ld' _)
  generalize (w0.setCell ⟨d, 0, none⟩ (.int .i64 x)) = wz at *
  cases c₀
  simp only [bodyPostS]
  exact ⟨trivial, _, rfl, _, results_none rfl _ _ _, rfl, rfl, qd, fun m ld' => qB m ld'⟩
end Go.Proofs.YtlanfceilajifaaGreatDoor
