/- The chapter's rows of entry (works): true. -/
import Derived.Test.YtlanfceilajifaaGreatDoorMB
namespace Go.Proofs.YtlanfceilajifaaGreatDoor
set_option linter.unusedVariables false
set_option linter.unusedSimpArgs false
open Go.RowKit
set_option maxRecDepth 100000

def entBytes3 : List UInt8 := [0, 2, 0, 0, 10, 1, 0, 0, 255, 255, 0, 0, 0, 0, 0, 0, 0, 0, 0, 3]
theorem pref_c (W : World) : Calls Tryz.prog 93 #[.agg #[.int .i64 0, .int .i64 0, .int .u32 0, .int .u32 0, .int .u32 0, .int .u32 16]] W fun e w' => e = .returned (.tuple #[.agg #[.int .u32 0, .int .i64 0], .int .i64 140]) ∧ Below W.heap.size W w' := by
  have h := prefix_any 0 0 0 0 0 16 W (by omega) (by omega) (by omega) (by omega)
  have hv : prefF 0 0 0 0 16 = ((0, 0), 140) := by decide +kernel
  rw [hv] at h
  exact h
theorem why_c (f : Int) (a m k q : Nat) (hq : whyF f a m 0 k = q) (ha : a < 4294967296) (hm : m < 4294967296) (hk : k < 4294967296) (W : World) :
    Calls Tryz.prog 92 #[.agg #[.int .i64 f, .int .i64 0, .int .u32 a, .int .u32 m, .int .u32 0, .int .u32 k]] W fun e w' => e = .returned (.int .i64 q) ∧ Below W.heap.size W w' := by
  have h := why_any f 0 a m 0 k W ha hm (by omega) hk
  rw [hq] at h
  exact h

theorem why_c0 (W : World) : Calls Tryz.prog 92 #[.agg #[.int .i64 1, .int .i64 0, .int .u32 167837696, .int .u32 4294901760, .int .u32 0, .int .u32 3]] W fun e w' => e = .returned (.int .i64 1) ∧ Below W.heap.size W w' :=
  why_c 1 167837696 4294901760 3 1 (by decide +kernel) (by omega) (by omega) (by omega) W
theorem why_c1 (W : World) : Calls Tryz.prog 92 #[.agg #[.int .i64 2, .int .i64 0, .int .u32 167837696, .int .u32 4278255360, .int .u32 0, .int .u32 3]] W fun e w' => e = .returned (.int .i64 2) ∧ Below W.heap.size W w' :=
  why_c 2 167837696 4278255360 3 2 (by decide +kernel) (by omega) (by omega) (by omega) W
theorem why_c2 (W : World) : Calls Tryz.prog 92 #[.agg #[.int .i64 2, .int .i64 0, .int .u32 167837697, .int .u32 4294901760, .int .u32 0, .int .u32 3]] W fun e w' => e = .returned (.int .i64 3) ∧ Below W.heap.size W w' :=
  why_c 2 167837697 4294901760 3 3 (by decide +kernel) (by omega) (by omega) (by omega) W
theorem why_c3 (W : World) : Calls Tryz.prog 92 #[.agg #[.int .i64 2, .int .i64 0, .int .u32 2130706432, .int .u32 4278190080, .int .u32 0, .int .u32 3]] W fun e w' => e = .returned (.int .i64 4) ∧ Below W.heap.size W w' :=
  why_c 2 2130706432 4278190080 3 4 (by decide +kernel) (by omega) (by omega) (by omega) W
theorem why_c4 (W : World) : Calls Tryz.prog 92 #[.agg #[.int .i64 2, .int .i64 0, .int .u32 167837696, .int .u32 4294901760, .int .u32 0, .int .u32 17]] W fun e w' => e = .returned (.int .i64 6) ∧ Below W.heap.size W w' :=
  why_c 2 167837696 4294901760 17 6 (by decide +kernel) (by omega) (by omega) (by omega) W
theorem wpList_build_to {P : Program} {ops : Array Oper} {rest : List Oper} {o : Oper} {a : Act} {w : World} {Q : Exit → Act → World → Prop} (hg : o.guard = none) (t : TypeId) (parts : Array (Nat × Operand)) (ho : o.op = .build t parts) (cells : Array Value)
    (hc : P.built t (parts.map fun (i, x) => (i, a.eval x)).toList = some cells) (h : wpList P ops Q rest (a.put o.dst (.agg cells)) w) : wpList P ops Q (o :: rest) a w :=
  wpList_build hg t parts ho (by rw [hc]; rfl) (by rw [hc]; exact h)
theorem wpList_val {P : Program} {ops : Array Oper} {rest : List Oper} {o : Oper} {a : Act} {w : World} {Q : Exit → Act → World → Prop} (hg : o.guard = none) (v : Value) (w' : World)
    (hr : (execOp a.eval o).run P w = .ok (.value v) w') (h : wpList P ops Q rest (a.put o.dst v) w') : wpList P ops Q (o :: rest) a w :=
  wpList_plain hg fun K hK => by unfold Oper.wp; rw [hr]; exact hK _ _ h
def chapZ : Array Value := #[.int .i64 0, .int .i64 0, .int .u32 0, .int .u32 0, .int .u32 0, .int .u32 0, .int .i64 0, .int .i64 0, .int .u32 0, .int .u32 0, .int .u32 0, .int .u32 0, .int .i64 0, .int .i64 0, .int .u32 0, .int .u32 0, .int .u32 0, .int .u32 0, .int .i64 0, .int .i64 0, .int .u32 0, .int .u32 0, .int .u32 0, .int .u32 0, .int .i64 0, .int .i64 0, .int .u32 0, .int .u32 0, .int .u32 0, .int .u32 0]
theorem why_y (W : World) : Calls Tryz.prog 92 #[.agg #[.int .i64 2, .int .i64 0, .int .u32 0, .int .u32 0, .int .u32 0, .int .u32 1]] W fun e w' => e = .returned (.int .i64 0) ∧ Below W.heap.size W w' :=
  why_c 2 0 0 1 0 (by decide +kernel) (by omega) (by omega) (by omega) W
/-- five entries of the chapter -/
def chap5 : Array Value := #[.int .i64 2, .int .i64 0, .int .u32 167837696, .int .u32 4294901760, .int .u32 0, .int .u32 3, .int .i64 2, .int .i64 0, .int .u32 167837696, .int .u32 4294901760, .int .u32 0, .int .u32 3, .int .i64 2, .int .i64 0, .int .u32 167837696, .int .u32 4294901760, .int .u32 0, .int .u32 3, .int .i64 2, .int .i64 0, .int .u32 167837696, .int .u32 4294901760, .int .u32 0, .int .u32 3, .int .i64 2, .int .i64 0, .int .u32 167837696, .int .u32 4294901760, .int .u32 0, .int .u32 3]
/-- the chapter's entries, and the names of why they are left out -/
def chapL : Array Value := #[.int .i64 1, .int .i64 0, .int .u32 167837696, .int .u32 4294901760, .int .u32 0, .int .u32 3, .int .i64 2, .int .i64 0, .int .u32 167837696, .int .u32 4278255360, .int .u32 0, .int .u32 3, .int .i64 2, .int .i64 0, .int .u32 167837697, .int .u32 4294901760, .int .u32 0, .int .u32 3, .int .i64 2, .int .i64 0, .int .u32 2130706432, .int .u32 4278190080, .int .u32 0, .int .u32 3, .int .i64 2, .int .i64 0, .int .u32 167837696, .int .u32 4294901760, .int .u32 0, .int .u32 17]
def chapN : Array Value := #[.string ⟨#[102, 97, 109, 105, 108, 121]⟩, .string ⟨#[109, 97, 115, 107]⟩, .string ⟨#[98, 105, 116, 115]⟩, .string ⟨#[107, 105, 110, 100]⟩, .string ⟨#[109, 101, 116, 114, 105, 99]⟩]

theorem Blk.newRow (w : World) (t : TypeId) (old cs : Array Value) : Blk ((w.alloc (.cells old t)).setRow w.heap.size cs) w.heap.size t cs := setRow_heap _ _ _ _ _ _ (heap_alloc_new w _)
theorem below_newRow (w : World) (o : Obj) (cs : Array Value) : Below w.heap.size w ((w.alloc o).setRow w.heap.size cs) := by
  refine (balloc (Below.refl _ w) o).trans ⟨rfl, rfl, rfl, by simp [World.setRow], fun k hk => ?_⟩
  simp only [World.setRow, Array.getElem?_modify]
  rw [if_neg (by omega)]
end Go.Proofs.YtlanfceilajifaaGreatDoor
