/- The chapter's rows of entry (works): true. -/
import Derived.Test.YtacdanpgdgdjfaaDoorEnt4
namespace Go.Proofs.YtacdanpgdgdjfaaDoor
set_option linter.unusedVariables false
set_option linter.unusedSimpArgs false
open Go.RowKit
set_option maxRecDepth 100000

theorem of_c1 (W : World) : Calls Tryd.prog 15 #[.agg #[.int .u32 167837696, .int .i64 16], .int .i64 3] W fun e w' => e = .returned (.tuple #[.agg #[.int .i64 2, .int .i64 0, .int .u32 167837696, .int .u32 4294901760, .int .u32 0, .int .u32 3], .int .i64 0]) ∧ Below W.heap.size W w' := by
  have h := of_any 167837696 16 3 W (by omega) (by omega)
  have hv : ofV 167837696 16 3 = .tuple #[.agg #[.int .i64 2, .int .i64 0, .int .u32 167837696, .int .u32 4294901760, .int .u32 0, .int .u32 3], .int .i64 0] := by
    have h1 : okOf 167837696 16 3 = true := by decide +kernel
    have h2 : ((maskF 16 : Nat) : Int) = 4294901760 := by decide +kernel
    simp [ofV, h1, h2]
  rw [hv] at h
  exact h
theorem of_c2 (W : World) : Calls Tryd.prog 15 #[.agg #[.int .u32 0, .int .i64 0], .int .i64 1] W fun e w' => e = .returned (.tuple #[.agg #[.int .i64 2, .int .i64 0, .int .u32 0, .int .u32 0, .int .u32 0, .int .u32 1], .int .i64 0]) ∧ Below W.heap.size W w' := by
  have h := of_any 0 0 1 W (by omega) (by omega)
  have hv : ofV 0 0 1 = .tuple #[.agg #[.int .i64 2, .int .i64 0, .int .u32 0, .int .u32 0, .int .u32 0, .int .u32 1], .int .i64 0] := by
    have h1 : okOf 0 0 1 = true := by decide +kernel
    have h2 : maskF 0 = 0 := by decide +kernel
    simp [ofV, h1, h2]
  rw [hv] at h
  exact h
theorem of_c3 (W : World) : Calls Tryd.prog 15 #[.agg #[.int .u32 0, .int .i64 8], .int .i64 1] W fun e w' => e = .returned (.tuple #[.agg #[.int .i64 0, .int .i64 0, .int .u32 0, .int .u32 0, .int .u32 0, .int .u32 0], .int .i64 2]) ∧ Below W.heap.size W w' := by
  have h := of_any 0 8 1 W (by omega) (by omega)
  have hv : ofV 0 8 1 = .tuple #[.agg #[.int .i64 0, .int .i64 0, .int .u32 0, .int .u32 0, .int .u32 0, .int .u32 0], .int .i64 2] := by
    have h1 : okOf 0 8 1 = false := by decide +kernel
    simp [ofV, h1]
  rw [hv] at h
  exact h
def entBytes3 : List UInt8 := [0, 2, 0, 0, 10, 1, 0, 0, 255, 255, 0, 0, 0, 0, 0, 0, 0, 0, 0, 3]
theorem bytes_c (W : World) (h : WidthsAt W) : Calls Tryd.prog 19 #[.agg #[.int .i64 2, .int .i64 0, .int .u32 167837696, .int .u32 4294901760, .int .u32 0, .int .u32 3]] W (GivesB entBytes3 0 W) := by
  have := bytes_ok 2 0 167837696 4294901760 0 3 W h (by omega) (by omega) (by omega) (by omega) (by omega) (by omega)
  have hb : entB 2 0 167837696 4294901760 0 3 = entBytes3 := by decide +kernel
  rw [hb] at this
  exact this
theorem pref_c (W : World) : Calls Tryd.prog 8 #[.agg #[.int .i64 0, .int .i64 0, .int .u32 0, .int .u32 0, .int .u32 0, .int .u32 16]] W fun e w' => e = .returned (.tuple #[.agg #[.int .u32 0, .int .i64 0], .int .i64 140]) ∧ Below W.heap.size W w' := by
  have h := prefix_any 0 0 0 0 0 16 W (by omega) (by omega) (by omega) (by omega)
  have hv : prefF 0 0 0 0 16 = ((0, 0), 140) := by decide +kernel
  rw [hv] at h
  exact h
theorem why_c (f : Int) (a m k q : Nat) (hq : whyF f a m 0 k = q) (ha : a < 4294967296) (hm : m < 4294967296) (hk : k < 4294967296) (W : World) :
    Calls Tryd.prog 10 #[.agg #[.int .i64 f, .int .i64 0, .int .u32 a, .int .u32 m, .int .u32 0, .int .u32 k]] W fun e w' => e = .returned (.int .i64 q) ∧ Below W.heap.size W w' := by
  have h := why_any f 0 a m 0 k W ha hm (by omega) hk
  rw [hq] at h
  exact h

theorem name_c (r : Int) (s : ByteArray) (h : nameF r = s) (W : World) : Calls Tryd.prog 13 #[.int .i64 r] W fun e w' => e = .returned (.string s) ∧ Below W.heap.size W w' := by
  have := name_any r W
  rw [h] at this
  exact this
theorem why_c0 (W : World) : Calls Tryd.prog 10 #[.agg #[.int .i64 1, .int .i64 0, .int .u32 167837696, .int .u32 4294901760, .int .u32 0, .int .u32 3]] W fun e w' => e = .returned (.int .i64 1) ∧ Below W.heap.size W w' :=
  why_c 1 167837696 4294901760 3 1 (by decide +kernel) (by omega) (by omega) (by omega) W
theorem name_c0 (W : World) : Calls Tryd.prog 13 #[.int .i64 1] W fun e w' => e = .returned (.string ⟨#[102, 97, 109, 105, 108, 121]⟩) ∧ Below W.heap.size W w' :=
  name_c 1 ⟨#[102, 97, 109, 105, 108, 121]⟩ (by decide +kernel) W
theorem why_c1 (W : World) : Calls Tryd.prog 10 #[.agg #[.int .i64 2, .int .i64 0, .int .u32 167837696, .int .u32 4278255360, .int .u32 0, .int .u32 3]] W fun e w' => e = .returned (.int .i64 2) ∧ Below W.heap.size W w' :=
  why_c 2 167837696 4278255360 3 2 (by decide +kernel) (by omega) (by omega) (by omega) W
theorem name_c1 (W : World) : Calls Tryd.prog 13 #[.int .i64 2] W fun e w' => e = .returned (.string ⟨#[109, 97, 115, 107]⟩) ∧ Below W.heap.size W w' :=
  name_c 2 ⟨#[109, 97, 115, 107]⟩ (by decide +kernel) W
theorem why_c2 (W : World) : Calls Tryd.prog 10 #[.agg #[.int .i64 2, .int .i64 0, .int .u32 167837697, .int .u32 4294901760, .int .u32 0, .int .u32 3]] W fun e w' => e = .returned (.int .i64 3) ∧ Below W.heap.size W w' :=
  why_c 2 167837697 4294901760 3 3 (by decide +kernel) (by omega) (by omega) (by omega) W
theorem name_c2 (W : World) : Calls Tryd.prog 13 #[.int .i64 3] W fun e w' => e = .returned (.string ⟨#[98, 105, 116, 115]⟩) ∧ Below W.heap.size W w' :=
  name_c 3 ⟨#[98, 105, 116, 115]⟩ (by decide +kernel) W
theorem why_c3 (W : World) : Calls Tryd.prog 10 #[.agg #[.int .i64 2, .int .i64 0, .int .u32 2130706432, .int .u32 4278190080, .int .u32 0, .int .u32 3]] W fun e w' => e = .returned (.int .i64 4) ∧ Below W.heap.size W w' :=
  why_c 2 2130706432 4278190080 3 4 (by decide +kernel) (by omega) (by omega) (by omega) W
theorem name_c3 (W : World) : Calls Tryd.prog 13 #[.int .i64 4] W fun e w' => e = .returned (.string ⟨#[107, 105, 110, 100]⟩) ∧ Below W.heap.size W w' :=
  name_c 4 ⟨#[107, 105, 110, 100]⟩ (by decide +kernel) W
theorem why_c4 (W : World) : Calls Tryd.prog 10 #[.agg #[.int .i64 2, .int .i64 0, .int .u32 167837696, .int .u32 4294901760, .int .u32 0, .int .u32 17]] W fun e w' => e = .returned (.int .i64 6) ∧ Below W.heap.size W w' :=
  why_c 2 167837696 4294901760 17 6 (by decide +kernel) (by omega) (by omega) (by omega) W
theorem name_c4 (W : World) : Calls Tryd.prog 13 #[.int .i64 6] W fun e w' => e = .returned (.string ⟨#[109, 101, 116, 114, 105, 99]⟩) ∧ Below W.heap.size W w' :=
  name_c 6 ⟨#[109, 101, 116, 114, 105, 99]⟩ (by decide +kernel) W
theorem wpList_build_to {P : Program} {ops : Array Oper} {rest : List Oper} {o : Oper} {a : Act} {w : World} {Q : Exit → Act → World → Prop} (hg : o.guard = none) (t : TypeId) (parts : Array (Nat × Operand)) (ho : o.op = .build t parts) (cells : Array Value)
    (hc : P.built t (parts.map fun (i, x) => (i, a.eval x)).toList = some cells) (h : wpList P ops Q rest (a.put o.dst (.agg cells)) w) : wpList P ops Q (o :: rest) a w :=
  wpList_build hg t parts ho (by rw [hc]; rfl) (by rw [hc]; exact h)
theorem wpList_val {P : Program} {ops : Array Oper} {rest : List Oper} {o : Oper} {a : Act} {w : World} {Q : Exit → Act → World → Prop} (hg : o.guard = none) (v : Value) (w' : World)
    (hr : (execOp a.eval o).run P w = .ok (.value v) w') (h : wpList P ops Q rest (a.put o.dst v) w') : wpList P ops Q (o :: rest) a w :=
  wpList_plain hg fun K hK => by unfold Oper.wp; rw [hr]; exact hK _ _ h
def chapZ : Array Value := #[.int .i64 0, .int .i64 0, .int .u32 0, .int .u32 0, .int .u32 0, .int .u32 0, .int .i64 0, .int .i64 0, .int .u32 0, .int .u32 0, .int .u32 0, .int .u32 0, .int .i64 0, .int .i64 0, .int .u32 0, .int .u32 0, .int .u32 0, .int .u32 0, .int .i64 0, .int .i64 0, .int .u32 0, .int .u32 0, .int .u32 0, .int .u32 0, .int .i64 0, .int .i64 0, .int .u32 0, .int .u32 0, .int .u32 0, .int .u32 0]
theorem why_y (W : World) : Calls Tryd.prog 10 #[.agg #[.int .i64 2, .int .i64 0, .int .u32 0, .int .u32 0, .int .u32 0, .int .u32 1]] W fun e w' => e = .returned (.int .i64 0) ∧ Below W.heap.size W w' :=
  why_c 2 0 0 1 0 (by decide +kernel) (by omega) (by omega) (by omega) W
/-- five entries of the chapter -/
def chap5 : Array Value := #[.int .i64 2, .int .i64 0, .int .u32 167837696, .int .u32 4294901760, .int .u32 0, .int .u32 3, .int .i64 2, .int .i64 0, .int .u32 167837696, .int .u32 4294901760, .int .u32 0, .int .u32 3, .int .i64 2, .int .i64 0, .int .u32 167837696, .int .u32 4294901760, .int .u32 0, .int .u32 3, .int .i64 2, .int .i64 0, .int .u32 167837696, .int .u32 4294901760, .int .u32 0, .int .u32 3, .int .i64 2, .int .i64 0, .int .u32 167837696, .int .u32 4294901760, .int .u32 0, .int .u32 3]
/-- the chapter's entries, and the names of why they are left out -/
def chapL : Array Value := #[.int .i64 1, .int .i64 0, .int .u32 167837696, .int .u32 4294901760, .int .u32 0, .int .u32 3, .int .i64 2, .int .i64 0, .int .u32 167837696, .int .u32 4278255360, .int .u32 0, .int .u32 3, .int .i64 2, .int .i64 0, .int .u32 167837697, .int .u32 4294901760, .int .u32 0, .int .u32 3, .int .i64 2, .int .i64 0, .int .u32 2130706432, .int .u32 4278190080, .int .u32 0, .int .u32 3, .int .i64 2, .int .i64 0, .int .u32 167837696, .int .u32 4294901760, .int .u32 0, .int .u32 17]
def chapN : Array Value := #[.string ⟨#[102, 97, 109, 105, 108, 121]⟩, .string ⟨#[109, 97, 115, 107]⟩, .string ⟨#[98, 105, 116, 115]⟩, .string ⟨#[107, 105, 110, 100]⟩, .string ⟨#[109, 101, 116, 114, 105, 99]⟩]

theorem Blk.newRow (w : World) (t : TypeId) (old cs : Array Value) : Blk ((w.alloc (.cells old t)).setRow w.heap.size cs) w.heap.size t cs := setRow_heap _ _ _ _ _ _ (heap_alloc_new w _)
theorem below_newRow (w : World) (o : Obj) (cs : Array Value) : Below w.heap.size w ((w.alloc o).setRow w.heap.size cs) := by
  refine (balloc (Below.refl _ w) o).trans ⟨rfl, rfl, rfl, by simp [World.setRow], fun k hk => ?_⟩
  simp only [World.setRow, Array.getElem?_modify]
  rw [if_neg (by omega)]
set_option maxHeartbeats 4000000 in
theorem works_any (w : World) (hw : WidthsAt w) :
    Calls Tryd.prog 14 #[] w fun e w' => e = .returned (.bool true) ∧ Below w.heap.size w w' := by
  have HW := Lib.hid hw
  clear hw
  go_enter Tryd.func14, Tryd.ntmps14
  go_wp2_with fail
  refine (of_c1 _).mono ?_
  rintro e w1 ⟨rfl, b1⟩
  go_wp2_with fail
  refine (bytes_c _ (HW.out.below (balloc b1 _))).mono ?_
  rintro e w2 ⟨A2, c2, rfl, _, _, r2, b2⟩
  have hX := (Blk.new w1 25 #[.int .i64 2, .int .i64 0, .int .u32 167837696, .int .u32 4294901760, .int .u32 0, .int .u32 3]).below b2 (by simp)
  replace b2 := bnext (balloc b1 (.cells #[.int .i64 2, .int .i64 0, .int .u32 167837696, .int .u32 4294901760, .int .u32 0, .int .u32 3] 25)) b2
  have hX2 := hX.lt
  have HX := Lib.hid hX
  have HR := Lib.hid r2
  clear hX r2 b1
  go_wp2_with fail
  refine (given_any _).mono ?_
  rintro e w3 ⟨rfl, b3⟩
  go_wp2_with fail
  refine (given_any _).mono ?_
  rintro e w4 ⟨rfl, b4⟩
  go_wp2_with fail
  refine (given_any _).mono ?_
  rintro e w5 ⟨rfl, b5⟩
  go_wp2_with fail
  refine (given_any _).mono ?_
  rintro e w6 ⟨rfl, b6⟩
  go_wp2_with fail
  refine (given_any _).mono ?_
  rintro e w7 ⟨rfl, b7⟩
  have B7 := bnext (bnext (bnext (bnext b3 b4) b5) b6) b7
  clear b3 b4 b5 b6 b7
  go_wp2_with (first
    | (refine wpList_build_to rfl 73 _ rfl chap5 (by kernel_rfl) ?_
       refine wpList_val rfl (.pointer (some ⟨w7.heap.size, 0, none⟩)) (w7.alloc (.cells chapZ 73)) (by kernel_rfl) ?_
       refine wpList_store_row rfl 73 (.tmp 5) (.tmp 29) rfl w7.heap.size chap5 rfl rfl 73 chapZ (heap_alloc_new w7 _) (by kernel_rfl) (by kernel_rfl) (by kernel_rfl) ?_
       have hA := Blk.newRow w7 73 chapZ chap5
       have bA := below_newRow w7 (.cells chapZ 73) chap5
       generalize (w7.alloc (.cells chapZ 73)).setRow w7.heap.size chap5 = wA at *
       have q0 := hA.cell 0
       have q1 := hA.cell 9
       have q2 := hA.cell 14
       have q3 := hA.cell 20
       have q4 := hA.cell 21
       have q5 := hA.cell 29
       have z0 := hA.frozen 0
       have z1 := hA.frozen 9
       have z2 := hA.frozen 14
       have z3 := hA.frozen 20
       have z4 := hA.frozen 21
       have z5 := hA.frozen 29
       simp only [chap5, List.getElem?_toArray, List.getElem?_cons_zero, List.getElem?_cons_succ] at q0 q1 q2 q3 q4 q5
       have HA := Lib.hid hA
       clear hA))
  obtain ⟨wB, hwB⟩ : ∃ wB, wB = ((((((wA.setCell ⟨w7.heap.size, 0, none⟩ (.int .i64 1)).setCell ⟨w7.heap.size, 9, none⟩ (.int .u32 4278255360)).setCell ⟨w7.heap.size, 14, none⟩ (.int .u32 167837697)).setCell ⟨w7.heap.size, 20, none⟩ (.int .u32 2130706432)).setCell ⟨w7.heap.size, 21, none⟩ (.int .u32 4278190080)).setCell ⟨w7.heap.size, 29, none⟩ (.int .u32 17)) := ⟨_, rfl⟩
  have hB : Blk wB w7.heap.size 73 chapL := by
    rw [hwB]
    have h1 := ((((((HA.out.set 0 (.int .i64 1)).set 9 (.int .u32 4278255360)).set 14 (.int .u32 167837697)).set 20 (.int .u32 2130706432)).set 21 (.int .u32 4278190080)).set 29 (.int .u32 17))
    rw [show ((((((chap5.setIfInBounds 0 (.int .i64 1)).setIfInBounds 9 (.int .u32 4278255360)).setIfInBounds 14 (.int .u32 167837697)).setIfInBounds 20 (.int .u32 2130706432)).setIfInBounds 21 (.int .u32 4278190080)).setIfInBounds 29 (.int .u32 17)) = chapL by kernel_rfl] at h1
    exact h1
  have bB : Below w7.heap.size w7 wB := by rw [hwB]; exact ((((((bA.setCell (p := ⟨w7.heap.size, 0, none⟩) (Nat.le_refl _) (.int .i64 1)).setCell (p := ⟨w7.heap.size, 9, none⟩) (Nat.le_refl _) (.int .u32 4278255360)).setCell (p := ⟨w7.heap.size, 14, none⟩) (Nat.le_refl _) (.int .u32 167837697)).setCell (p := ⟨w7.heap.size, 20, none⟩) (Nat.le_refl _) (.int .u32 2130706432)).setCell (p := ⟨w7.heap.size, 21, none⟩) (Nat.le_refl _) (.int .u32 4278190080)).setCell (p := ⟨w7.heap.size, 29, none⟩) (Nat.le_refl _) (.int .u32 17))
  have sB : wB.heap.size = wA.heap.size := by rw [hwB]; simp [World.setCell]
  rw [← hwB, ← sB]
  clear hwB sB q0 q1 q2 q3 q4 q5 z0 z1 z2 z3 z4 z5 HA bA
  replace B7 := bnext B7 bB
  obtain ⟨w8, hw8⟩ : ∃ w8, w8 = wB.alloc (.cells chapN 74) := ⟨_, rfl⟩
  have B8 : Below w2.heap.size w2 w8 := by rw [hw8]; exact balloc B7 _
  have hL : Blk w8 w7.heap.size 73 chapL := by rw [hw8]; exact hB.alloc _
  have hN : Blk w8 wB.heap.size 74 chapN := by rw [hw8]; exact Blk.new _ _ _
  unfold chapN at hw8
  rw [← hw8]
  clear hw8 B7 bB hB
  have HL := Lib.hid hL
  have HN := Lib.hid hN
  clear hL hN
  generalize Value.agg #[.int .i64 2, .int .i64 0, .int .u32 167837696, .int .u32 4294901760, .int .u32 0, .int .u32 3] = vG
  generalize Value.agg chap5 = vL
  generalize Value.agg #[.string ⟨#[102, 97, 109, 105, 108, 121]⟩, .string ⟨#[109, 97, 115, 107]⟩, .string ⟨#[98, 105, 116, 115]⟩, .string ⟨#[107, 105, 110, 100]⟩, .string ⟨#[109, 101, 116, 114, 105, 99]⟩] = vN
  generalize Value.tuple #[vG, .int .i64 0] = vT
  have bk0 : Below w8.heap.size w8 w8 := Below.refl _ w8
  refine wp_loop_rounds 6 ?_
  as_aux_lemma =>
    rw [rounds_succ]
    go_wp2_with fail
    have hne0 : Nonempty (Sub w8) := ⟨⟨_, Below.refl _ _⟩⟩
    have k00 : ∀ v : Sub w8, v.1.cell? ⟨w7.heap.size, 0, none⟩ = some (.int .i64 1) := fun v => ((HL.out.below bk0 HL.out.lt).below v.2 (Nat.lt_of_lt_of_le HL.out.lt bk0.size)).cell 0
    have k01 : ∀ v : Sub w8, v.1.cell? ⟨w7.heap.size, 1, none⟩ = some (.int .i64 0) := fun v => ((HL.out.below bk0 HL.out.lt).below v.2 (Nat.lt_of_lt_of_le HL.out.lt bk0.size)).cell 1
    have k02 : ∀ v : Sub w8, v.1.cell? ⟨w7.heap.size, 2, none⟩ = some (.int .u32 167837696) := fun v => ((HL.out.below bk0 HL.out.lt).below v.2 (Nat.lt_of_lt_of_le HL.out.lt bk0.size)).cell 2
    have k03 : ∀ v : Sub w8, v.1.cell? ⟨w7.heap.size, 3, none⟩ = some (.int .u32 4294901760) := fun v => ((HL.out.below bk0 HL.out.lt).below v.2 (Nat.lt_of_lt_of_le HL.out.lt bk0.size)).cell 3
    have k04 : ∀ v : Sub w8, v.1.cell? ⟨w7.heap.size, 4, none⟩ = some (.int .u32 0) := fun v => ((HL.out.below bk0 HL.out.lt).below v.2 (Nat.lt_of_lt_of_le HL.out.lt bk0.size)).cell 4
    have k05 : ∀ v : Sub w8, v.1.cell? ⟨w7.heap.size, 5, none⟩ = some (.int .u32 3) := fun v => ((HL.out.below bk0 HL.out.lt).below v.2 (Nat.lt_of_lt_of_le HL.out.lt bk0.size)).cell 5
    have n0 : ∀ v : Sub w8, v.1.cell? ⟨wB.heap.size, 0, none⟩ = some (.string ⟨#[102, 97, 109, 105, 108, 121]⟩) := fun v => ((HN.out.below bk0 HN.out.lt).below v.2 (Nat.lt_of_lt_of_le HN.out.lt bk0.size)).cell 0
    refine region_sub (by kernel_rfl) (by kernel_rfl) ?_
    repeat (first | go_big_quiet_step ((first | (go_at_call 10; exact sub_below (why_c0 _)) | (go_at_call 13; exact sub_below (name_c0 _)))) | quiet_step ((first | (go_at_call 10; exact sub_below (why_c0 _)) | (go_at_call 13; exact sub_below (name_c0 _)))))
    refine wpQuiet_nil ?_
    rintro _ ⟨u0, rfl⟩
    clear k00 k01 k02 k03 k04 k05 n0 hne0
    have bk1 : Below w8.heap.size w8 u0.1 := bnext bk0 u0.2
    obtain ⟨x0, hx0⟩ := u0
    simp only at bk1 ⊢
    clear hx0 bk0
    go_wp2_with fail
    as_aux_lemma =>
      rw [rounds_succ]
      go_wp2_with fail
      have hne1 : Nonempty (Sub x0) := ⟨⟨_, Below.refl _ _⟩⟩
      have k10 : ∀ v : Sub x0, v.1.cell? ⟨w7.heap.size, 6, none⟩ = some (.int .i64 2) := fun v => ((HL.out.below bk1 HL.out.lt).below v.2 (Nat.lt_of_lt_of_le HL.out.lt bk1.size)).cell 6
      have k11 : ∀ v : Sub x0, v.1.cell? ⟨w7.heap.size, 7, none⟩ = some (.int .i64 0) := fun v => ((HL.out.below bk1 HL.out.lt).below v.2 (Nat.lt_of_lt_of_le HL.out.lt bk1.size)).cell 7
      have k12 : ∀ v : Sub x0, v.1.cell? ⟨w7.heap.size, 8, none⟩ = some (.int .u32 167837696) := fun v => ((HL.out.below bk1 HL.out.lt).below v.2 (Nat.lt_of_lt_of_le HL.out.lt bk1.size)).cell 8
      have k13 : ∀ v : Sub x0, v.1.cell? ⟨w7.heap.size, 9, none⟩ = some (.int .u32 4278255360) := fun v => ((HL.out.below bk1 HL.out.lt).below v.2 (Nat.lt_of_lt_of_le HL.out.lt bk1.size)).cell 9
      have k14 : ∀ v : Sub x0, v.1.cell? ⟨w7.heap.size, 10, none⟩ = some (.int .u32 0) := fun v => ((HL.out.below bk1 HL.out.lt).below v.2 (Nat.lt_of_lt_of_le HL.out.lt bk1.size)).cell 10
      have k15 : ∀ v : Sub x0, v.1.cell? ⟨w7.heap.size, 11, none⟩ = some (.int .u32 3) := fun v => ((HL.out.below bk1 HL.out.lt).below v.2 (Nat.lt_of_lt_of_le HL.out.lt bk1.size)).cell 11
      have n1 : ∀ v : Sub x0, v.1.cell? ⟨wB.heap.size, 1, none⟩ = some (.string ⟨#[109, 97, 115, 107]⟩) := fun v => ((HN.out.below bk1 HN.out.lt).below v.2 (Nat.lt_of_lt_of_le HN.out.lt bk1.size)).cell 1
      refine region_sub (by kernel_rfl) (by kernel_rfl) ?_
      repeat (first | go_big_quiet_step ((first | (go_at_call 10; exact sub_below (why_c1 _)) | (go_at_call 13; exact sub_below (name_c1 _)))) | quiet_step ((first | (go_at_call 10; exact sub_below (why_c1 _)) | (go_at_call 13; exact sub_below (name_c1 _)))))
      refine wpQuiet_nil ?_
      rintro _ ⟨u1, rfl⟩
      clear k10 k11 k12 k13 k14 k15 n1 hne1
      have bk2 : Below w8.heap.size w8 u1.1 := bnext bk1 u1.2
      obtain ⟨x1, hx1⟩ := u1
      simp only at bk2 ⊢
      clear hx1 bk1
      go_wp2_with fail
      as_aux_lemma =>
        rw [rounds_succ]
        go_wp2_with fail
        have hne2 : Nonempty (Sub x1) := ⟨⟨_, Below.refl _ _⟩⟩
        have k20 : ∀ v : Sub x1, v.1.cell? ⟨w7.heap.size, 12, none⟩ = some (.int .i64 2) := fun v => ((HL.out.below bk2 HL.out.lt).below v.2 (Nat.lt_of_lt_of_le HL.out.lt bk2.size)).cell 12
        have k21 : ∀ v : Sub x1, v.1.cell? ⟨w7.heap.size, 13, none⟩ = some (.int .i64 0) := fun v => ((HL.out.below bk2 HL.out.lt).below v.2 (Nat.lt_of_lt_of_le HL.out.lt bk2.size)).cell 13
        have k22 : ∀ v : Sub x1, v.1.cell? ⟨w7.heap.size, 14, none⟩ = some (.int .u32 167837697) := fun v => ((HL.out.below bk2 HL.out.lt).below v.2 (Nat.lt_of_lt_of_le HL.out.lt bk2.size)).cell 14
        have k23 : ∀ v : Sub x1, v.1.cell? ⟨w7.heap.size, 15, none⟩ = some (.int .u32 4294901760) := fun v => ((HL.out.below bk2 HL.out.lt).below v.2 (Nat.lt_of_lt_of_le HL.out.lt bk2.size)).cell 15
        have k24 : ∀ v : Sub x1, v.1.cell? ⟨w7.heap.size, 16, none⟩ = some (.int .u32 0) := fun v => ((HL.out.below bk2 HL.out.lt).below v.2 (Nat.lt_of_lt_of_le HL.out.lt bk2.size)).cell 16
        have k25 : ∀ v : Sub x1, v.1.cell? ⟨w7.heap.size, 17, none⟩ = some (.int .u32 3) := fun v => ((HL.out.below bk2 HL.out.lt).below v.2 (Nat.lt_of_lt_of_le HL.out.lt bk2.size)).cell 17
        have n2 : ∀ v : Sub x1, v.1.cell? ⟨wB.heap.size, 2, none⟩ = some (.string ⟨#[98, 105, 116, 115]⟩) := fun v => ((HN.out.below bk2 HN.out.lt).below v.2 (Nat.lt_of_lt_of_le HN.out.lt bk2.size)).cell 2
        refine region_sub (by kernel_rfl) (by kernel_rfl) ?_
        repeat (first | go_big_quiet_step ((first | (go_at_call 10; exact sub_below (why_c2 _)) | (go_at_call 13; exact sub_below (name_c2 _)))) | quiet_step ((first | (go_at_call 10; exact sub_below (why_c2 _)) | (go_at_call 13; exact sub_below (name_c2 _)))))
        refine wpQuiet_nil ?_
        rintro _ ⟨u2, rfl⟩
        clear k20 k21 k22 k23 k24 k25 n2 hne2
        have bk3 : Below w8.heap.size w8 u2.1 := bnext bk2 u2.2
        obtain ⟨x2, hx2⟩ := u2
        simp only at bk3 ⊢
        clear hx2 bk2
        go_wp2_with fail
        as_aux_lemma =>
          rw [rounds_succ]
          go_wp2_with fail
          have hne3 : Nonempty (Sub x2) := ⟨⟨_, Below.refl _ _⟩⟩
          have k30 : ∀ v : Sub x2, v.1.cell? ⟨w7.heap.size, 18, none⟩ = some (.int .i64 2) := fun v => ((HL.out.below bk3 HL.out.lt).below v.2 (Nat.lt_of_lt_of_le HL.out.lt bk3.size)).cell 18
          have k31 : ∀ v : Sub x2, v.1.cell? ⟨w7.heap.size, 19, none⟩ = some (.int .i64 0) := fun v => ((HL.out.below bk3 HL.out.lt).below v.2 (Nat.lt_of_lt_of_le HL.out.lt bk3.size)).cell 19
          have k32 : ∀ v : Sub x2, v.1.cell? ⟨w7.heap.size, 20, none⟩ = some (.int .u32 2130706432) := fun v => ((HL.out.below bk3 HL.out.lt).below v.2 (Nat.lt_of_lt_of_le HL.out.lt bk3.size)).cell 20
          have k33 : ∀ v : Sub x2, v.1.cell? ⟨w7.heap.size, 21, none⟩ = some (.int .u32 4278190080) := fun v => ((HL.out.below bk3 HL.out.lt).below v.2 (Nat.lt_of_lt_of_le HL.out.lt bk3.size)).cell 21
          have k34 : ∀ v : Sub x2, v.1.cell? ⟨w7.heap.size, 22, none⟩ = some (.int .u32 0) := fun v => ((HL.out.below bk3 HL.out.lt).below v.2 (Nat.lt_of_lt_of_le HL.out.lt bk3.size)).cell 22
          have k35 : ∀ v : Sub x2, v.1.cell? ⟨w7.heap.size, 23, none⟩ = some (.int .u32 3) := fun v => ((HL.out.below bk3 HL.out.lt).below v.2 (Nat.lt_of_lt_of_le HL.out.lt bk3.size)).cell 23
          have n3 : ∀ v : Sub x2, v.1.cell? ⟨wB.heap.size, 3, none⟩ = some (.string ⟨#[107, 105, 110, 100]⟩) := fun v => ((HN.out.below bk3 HN.out.lt).below v.2 (Nat.lt_of_lt_of_le HN.out.lt bk3.size)).cell 3
          refine region_sub (by kernel_rfl) (by kernel_rfl) ?_
          repeat (first | go_big_quiet_step ((first | (go_at_call 10; exact sub_below (why_c3 _)) | (go_at_call 13; exact sub_below (name_c3 _)))) | quiet_step ((first | (go_at_call 10; exact sub_below (why_c3 _)) | (go_at_call 13; exact sub_below (name_c3 _)))))
          refine wpQuiet_nil ?_
          rintro _ ⟨u3, rfl⟩
          clear k30 k31 k32 k33 k34 k35 n3 hne3
          have bk4 : Below w8.heap.size w8 u3.1 := bnext bk3 u3.2
          obtain ⟨x3, hx3⟩ := u3
          simp only at bk4 ⊢
          clear hx3 bk3
          go_wp2_with fail
          as_aux_lemma =>
            rw [rounds_succ]
            go_wp2_with fail
            have hne4 : Nonempty (Sub x3) := ⟨⟨_, Below.refl _ _⟩⟩
            have k40 : ∀ v : Sub x3, v.1.cell? ⟨w7.heap.size, 24, none⟩ = some (.int .i64 2) := fun v => ((HL.out.below bk4 HL.out.lt).below v.2 (Nat.lt_of_lt_of_le HL.out.lt bk4.size)).cell 24
            have k41 : ∀ v : Sub x3, v.1.cell? ⟨w7.heap.size, 25, none⟩ = some (.int .i64 0) := fun v => ((HL.out.below bk4 HL.out.lt).below v.2 (Nat.lt_of_lt_of_le HL.out.lt bk4.size)).cell 25
            have k42 : ∀ v : Sub x3, v.1.cell? ⟨w7.heap.size, 26, none⟩ = some (.int .u32 167837696) := fun v => ((HL.out.below bk4 HL.out.lt).below v.2 (Nat.lt_of_lt_of_le HL.out.lt bk4.size)).cell 26
            have k43 : ∀ v : Sub x3, v.1.cell? ⟨w7.heap.size, 27, none⟩ = some (.int .u32 4294901760) := fun v => ((HL.out.below bk4 HL.out.lt).below v.2 (Nat.lt_of_lt_of_le HL.out.lt bk4.size)).cell 27
            have k44 : ∀ v : Sub x3, v.1.cell? ⟨w7.heap.size, 28, none⟩ = some (.int .u32 0) := fun v => ((HL.out.below bk4 HL.out.lt).below v.2 (Nat.lt_of_lt_of_le HL.out.lt bk4.size)).cell 28
            have k45 : ∀ v : Sub x3, v.1.cell? ⟨w7.heap.size, 29, none⟩ = some (.int .u32 17) := fun v => ((HL.out.below bk4 HL.out.lt).below v.2 (Nat.lt_of_lt_of_le HL.out.lt bk4.size)).cell 29
            have n4 : ∀ v : Sub x3, v.1.cell? ⟨wB.heap.size, 4, none⟩ = some (.string ⟨#[109, 101, 116, 114, 105, 99]⟩) := fun v => ((HN.out.below bk4 HN.out.lt).below v.2 (Nat.lt_of_lt_of_le HN.out.lt bk4.size)).cell 4
            refine region_sub (by kernel_rfl) (by kernel_rfl) ?_
            repeat (first | go_big_quiet_step ((first | (go_at_call 10; exact sub_below (why_c4 _)) | (go_at_call 13; exact sub_below (name_c4 _)))) | quiet_step ((first | (go_at_call 10; exact sub_below (why_c4 _)) | (go_at_call 13; exact sub_below (name_c4 _)))))
            refine wpQuiet_nil ?_
            rintro _ ⟨u4, rfl⟩
            clear k40 k41 k42 k43 k44 k45 n4 hne4
            have bk5 : Below w8.heap.size w8 u4.1 := bnext bk4 u4.2
            obtain ⟨x4, hx4⟩ := u4
            simp only at bk5 ⊢
            clear hx4 bk4
            go_wp2_with fail
            as_aux_lemma =>
              rw [rounds_succ]
              go_wp2_with fail
              refine (of_c2 _).mono ?_
              rintro e y1 ⟨rfl, d1⟩
              go_wp2_with fail
              refine (of_c3 _).mono ?_
              rintro e y2 ⟨rfl, d2⟩
              go_wp2_with fail
              refine (all_any _).mono ?_
              rintro e y3 ⟨rfl, d3⟩
              go_wp2_with fail
              refine (pref_c _).mono ?_
              rintro e y4 ⟨rfl, d4⟩
              go_wp2_with fail
              have E : Below (y1.alloc (.cells #[.int .i64 2, .int .i64 0, .int .u32 0, .int .u32 0, .int .u32 0, .int .u32 1] 25)).heap.size (y1.alloc (.cells #[.int .i64 2, .int .i64 0, .int .u32 0, .int .u32 0, .int .u32 0, .int .u32 1] 25)) (y4.alloc (.cells #[.int .u32 0, .int .i64 0] 28)) := balloc (bnext (bnext (balloc d2 (.cells #[.int .i64 0, .int .i64 0, .int .u32 0, .int .u32 0, .int .u32 0, .int .u32 0] 25)) d3) d4) _
              have D : Below w2.heap.size w2 (y4.alloc (.cells #[.int .u32 0, .int .i64 0] 28)) := bnext (balloc (bnext (bnext B8 bk5) d1) (.cells #[.int .i64 2, .int .i64 0, .int .u32 0, .int .u32 0, .int .u32 0, .int .u32 1] 25)) E
              have hX := HX.out.below D HX.out.lt
              have hY := (Blk.new y1 25 #[.int .i64 2, .int .i64 0, .int .u32 0, .int .u32 0, .int .u32 0, .int .u32 1]).below E (by simp)
              have rZ := HR.out.below D
              generalize y4.alloc (.cells #[.int .u32 0, .int .i64 0] 28) = wz at *
              have B9 := bnext b2 D
              have B9s : w2.heap.size ≤ wz.heap.size := D.size
              have HXZ := Lib.hid hX
              have HYZ := Lib.hid hY
              have HRZ := Lib.hid rZ
              clear E D hX hY rZ d1 d2 d3 d4 HX HR HL HN B8 bk5 b2
              have hne : Nonempty (Sub wz) := ⟨⟨_, Below.refl _ _⟩⟩
              have gx0 : ∀ v : Sub wz, v.1.cell? ⟨w1.heap.size, 0, none⟩ = some (.int .i64 2) := fun v => (HXZ.out.below v.2 HXZ.out.lt).cell 0
              have gx1 : ∀ v : Sub wz, v.1.cell? ⟨w1.heap.size, 1, none⟩ = some (.int .i64 0) := fun v => (HXZ.out.below v.2 HXZ.out.lt).cell 1
              have gx2 : ∀ v : Sub wz, v.1.cell? ⟨w1.heap.size, 2, none⟩ = some (.int .u32 167837696) := fun v => (HXZ.out.below v.2 HXZ.out.lt).cell 2
              have gx3 : ∀ v : Sub wz, v.1.cell? ⟨w1.heap.size, 3, none⟩ = some (.int .u32 4294901760) := fun v => (HXZ.out.below v.2 HXZ.out.lt).cell 3
              have gx4 : ∀ v : Sub wz, v.1.cell? ⟨w1.heap.size, 4, none⟩ = some (.int .u32 0) := fun v => (HXZ.out.below v.2 HXZ.out.lt).cell 4
              have gx5 : ∀ v : Sub wz, v.1.cell? ⟨w1.heap.size, 5, none⟩ = some (.int .u32 3) := fun v => (HXZ.out.below v.2 HXZ.out.lt).cell 5
              have gy0 : ∀ v : Sub wz, v.1.cell? ⟨y1.heap.size, 0, none⟩ = some (.int .i64 2) := fun v => (HYZ.out.below v.2 HYZ.out.lt).cell 0
              have gy1 : ∀ v : Sub wz, v.1.cell? ⟨y1.heap.size, 1, none⟩ = some (.int .i64 0) := fun v => (HYZ.out.below v.2 HYZ.out.lt).cell 1
              have gy2 : ∀ v : Sub wz, v.1.cell? ⟨y1.heap.size, 2, none⟩ = some (.int .u32 0) := fun v => (HYZ.out.below v.2 HYZ.out.lt).cell 2
              have gy3 : ∀ v : Sub wz, v.1.cell? ⟨y1.heap.size, 3, none⟩ = some (.int .u32 0) := fun v => (HYZ.out.below v.2 HYZ.out.lt).cell 3
              have gy4 : ∀ v : Sub wz, v.1.cell? ⟨y1.heap.size, 4, none⟩ = some (.int .u32 0) := fun v => (HYZ.out.below v.2 HYZ.out.lt).cell 4
              have gy5 : ∀ v : Sub wz, v.1.cell? ⟨y1.heap.size, 5, none⟩ = some (.int .u32 1) := fun v => (HYZ.out.below v.2 HYZ.out.lt).cell 5
              have f1 : ∀ v : Sub wz, (convert 47 9 (.slice A2 entBytes3.length c2)).run Tryd.prog v.1 = .ok (.string (str entBytes3)) v.1 := fun v => conv_rd 47 9 5 Tryd.underlying47 Tryd.underlying5 Tryd.underlying9 c2 ((HRZ.out.more B9s).below v.2)
              have hs : (str entBytes3).toList = [0, 2, 0, 0, 10, 1, 0, 0, 255, 255, 0, 0, 0, 0, 0, 0, 0, 0, 0, 3] := str_toList _
              have heq : ∀ w, (binOp .eql 25 (.agg #[.int .i64 2, .int .i64 0, .int .u32 167837696, .int .u32 4294901760, .int .u32 0, .int .u32 3]) (.agg #[.int .i64 2, .int .i64 0, .int .u32 167837696, .int .u32 4294901760, .int .u32 0, .int .u32 3])).run Tryd.prog w = .ok (.bool true) w := fun _ => by kernel_rfl
              refine region_sub (by kernel_rfl) (by kernel_rfl) ?_
              repeat (first | go_big_quiet_step ((first | (go_at_call 12; exact sub_same (num_any _ _)) | (go_at_call 31; exact sub_below (given_any _)) | (go_at_call 10; exact sub_below (why_y _)))) | quiet_step ((first | (go_at_call 12; exact sub_same (num_any _ _)) | (go_at_call 31; exact sub_below (given_any _)) | (go_at_call 10; exact sub_below (why_y _)))))
              refine wpQuiet_nil ?_
              rintro _ ⟨u, rfl⟩
              go_wp2_with fail
              go_ret
              exact ⟨rfl, bnext B9 u.2⟩
end Go.Proofs.YtacdanpgdgdjfaaDoor
