/- The chapter's rows of entry (works): true. -/
import Derived.Test.YtpadlillbofpnaaDoorEnt4
namespace Go.Proofs.YtpadlillbofpnaaDoor
set_option linter.unusedVariables false
set_option linter.unusedSimpArgs false
open Go.RowKit
set_option maxRecDepth 100000

def entBytes3 : List UInt8 := [0, 2, 0, 0, 10, 1, 0, 0, 255, 255, 0, 0, 0, 0, 0, 0, 0, 0, 0, 3]
theorem bytes_c (W : World) (h : WidthsAt W) : Calls Tryd.prog 32 #[.agg #[.int .i64 2, .int .i64 0, .int .u32 167837696, .int .u32 4294901760, .int .u32 0, .int .u32 3]] W (GivesB entBytes3 0 W) := by
  have := bytes_ok 2 0 167837696 4294901760 0 3 W h (by omega) (by omega) (by omega) (by omega) (by omega) (by omega)
  have hb : entB 2 0 167837696 4294901760 0 3 = entBytes3 := by decide +kernel
  rw [hb] at this
  exact this
theorem wpList_build_to {P : Program} {ops : Array Oper} {rest : List Oper} {o : Oper} {a : Act} {w : World} {Q : Exit → Act → World → Prop} (hg : o.guard = none) (t : TypeId) (parts : Array (Nat × Operand)) (ho : o.op = .build t parts) (cells : Array Value)
    (hc : P.built t (parts.map fun (i, x) => (i, a.eval x)).toList = some cells) (h : wpList P ops Q rest (a.put o.dst (.agg cells)) w) : wpList P ops Q (o :: rest) a w :=
  wpList_build hg t parts ho (by rw [hc]; rfl) (by rw [hc]; exact h)
theorem wpList_val {P : Program} {ops : Array Oper} {rest : List Oper} {o : Oper} {a : Act} {w : World} {Q : Exit → Act → World → Prop} (hg : o.guard = none) (v : Value) (w' : World)
    (hr : (execOp a.eval o).run P w = .ok (.value v) w') (h : wpList P ops Q rest (a.put o.dst v) w') : wpList P ops Q (o :: rest) a w :=
  wpList_plain hg fun K hK => by unfold Oper.wp; rw [hr]; exact hK _ _ h
def chapZ : Array Value := #[.int .i64 0, .int .i64 0, .int .u32 0, .int .u32 0, .int .u32 0, .int .u32 0, .int .i64 0, .int .i64 0, .int .u32 0, .int .u32 0, .int .u32 0, .int .u32 0, .int .i64 0, .int .i64 0, .int .u32 0, .int .u32 0, .int .u32 0, .int .u32 0, .int .i64 0, .int .i64 0, .int .u32 0, .int .u32 0, .int .u32 0, .int .u32 0, .int .i64 0, .int .i64 0, .int .u32 0, .int .u32 0, .int .u32 0, .int .u32 0]
/-- five entries of the chapter -/
def chap5 : Array Value := #[.int .i64 2, .int .i64 0, .int .u32 167837696, .int .u32 4294901760, .int .u32 0, .int .u32 3, .int .i64 2, .int .i64 0, .int .u32 167837696, .int .u32 4294901760, .int .u32 0, .int .u32 3, .int .i64 2, .int .i64 0, .int .u32 167837696, .int .u32 4294901760, .int .u32 0, .int .u32 3, .int .i64 2, .int .i64 0, .int .u32 167837696, .int .u32 4294901760, .int .u32 0, .int .u32 3, .int .i64 2, .int .i64 0, .int .u32 167837696, .int .u32 4294901760, .int .u32 0, .int .u32 3]
/-- the chapter's entries, and the names of why they are left out -/
def chapL : Array Value := #[.int .i64 1, .int .i64 0, .int .u32 167837696, .int .u32 4294901760, .int .u32 0, .int .u32 3, .int .i64 2, .int .i64 0, .int .u32 167837696, .int .u32 4278255360, .int .u32 0, .int .u32 3, .int .i64 2, .int .i64 0, .int .u32 167837697, .int .u32 4294901760, .int .u32 0, .int .u32 3, .int .i64 2, .int .i64 0, .int .u32 2130706432, .int .u32 4278190080, .int .u32 0, .int .u32 3, .int .i64 2, .int .i64 0, .int .u32 167837696, .int .u32 4294901760, .int .u32 0, .int .u32 17]
def chapN : Array Value := #[.string ⟨#[102, 97, 109, 105, 108, 121]⟩, .string ⟨#[109, 97, 115, 107]⟩, .string ⟨#[98, 105, 116, 115]⟩, .string ⟨#[107, 105, 110, 100]⟩, .string ⟨#[109, 101, 116, 114, 105, 99]⟩]

theorem Blk.newRow (w : World) (t : TypeId) (old cs : Array Value) : Blk ((w.alloc (.cells old t)).setRow w.heap.size cs) w.heap.size t cs := setRow_heap _ _ _ _ _ _ (heap_alloc_new w _)
theorem below_newRow (w : World) (o : Obj) (cs : Array Value) : Below w.heap.size w ((w.alloc o).setRow w.heap.size cs) := by
  refine (balloc (Below.refl _ w) o).trans ⟨rfl, rfl, rfl, by simp [World.setRow], fun k hk => ?_⟩
  simp only [World.setRow, Array.getElem?_modify]
  rw [if_neg (by omega)]
end Go.Proofs.YtpadlillbofpnaaDoor
