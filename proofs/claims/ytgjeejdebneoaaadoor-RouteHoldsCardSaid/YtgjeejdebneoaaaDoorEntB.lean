/- entry.Bytes. -/
import Derived.Test.YtgjeejdebneoaaaDoorEnt
import Derived.Test.YtgjeejdebneoaaaDoorRdr
namespace Go.Proofs.YtgjeejdebneoaaaDoor
set_option linter.unusedVariables false
set_option linter.unusedSimpArgs false
open Go.RowKit
set_option maxRecDepth 100000

theorem keep_alloc {W : World} {p : Addr} {v : Value} {o : Obj} (h : W.cell? p = some v) : (W.alloc o).cell? p = some v := by rw [World.cell?_alloc_lt _ _ _ (cell_lt h)]; exact h
theorem keep_drew {W : World} {p : Addr} {v : Value} (h : W.cell? p = some v) : W.drew.cell? p = some v := h
/-- a row of slices of bytes, each readable -/
structure Piece where
  A : Option Addr
  c : Nat
  l : List UInt8
def Piece.v (p : Piece) : Value := .slice p.A p.l.length p.c

/-- the bytes of an entry -/
def entB (f t a m x k : Nat) : List UInt8 := bs 2 f ++ (bs 2 t ++ (bs 4 a ++ (bs 4 m ++ (bs 4 x ++ bs 4 k))))

theorem keepc {W W' : World} {p : Addr} {v : Value} (h : W.cell? p = some v) (hb : Below W.heap.size W W') : W'.cell? p = some v := (hb.cell (cell_lt h)).trans h
/-- six cells of an entry -/
abbrev Cells6 (g f t a m x k : Nat) (w' : World) : Prop := w'.cell? ⟨g, 0, none⟩ = some (.int .i64 f) ∧ w'.cell? ⟨g, 1, none⟩ = some (.int .i64 t) ∧ w'.cell? ⟨g, 2, none⟩ = some (.int .u32 a) ∧ w'.cell? ⟨g, 3, none⟩ = some (.int .u32 m) ∧ w'.cell? ⟨g, 4, none⟩ = some (.int .u32 x) ∧ w'.cell? ⟨g, 5, none⟩ = some (.int .u32 k)
theorem six_rd {W : World} {B C : Nat} {p1 p2 p3 p4 p5 p6 : Piece} (h1 : Rd W B p1.A (p1.l.map b8)) (h2 : Rd W B p2.A (p2.l.map b8)) (h3 : Rd W B p3.A (p3.l.map b8)) (h4 : Rd W B p4.A (p4.l.map b8)) (h5 : Rd W B p5.A (p5.l.map b8)) (h6 : Rd W B p6.A (p6.l.map b8)) (hBC : B ≤ C) :
    ∀ p ∈ [p1, p2, p3, p4, p5, p6], Rd W C p.A (p.l.map b8) := by
  intro p hp
  simp only [List.mem_cons, List.not_mem_nil, or_false] at hp
  rcases hp with rfl | rfl | rfl | rfl | rfl | rfl
  · exact h1.more hBC
  · exact h2.more hBC
  · exact h3.more hBC
  · exact h4.more hBC
  · exact h5.more hBC
  · exact h6.more hBC
theorem six_len (A1 A2 A3 A4 A5 A6 : Option Addr) (c1 c2 c3 c4 c5 c6 f t a m x k : Nat) :
    ∀ p ∈ ([⟨A1, c1, bs 2 f⟩, ⟨A2, c2, bs 2 t⟩, ⟨A3, c3, bs 4 a⟩, ⟨A4, c4, bs 4 m⟩, ⟨A5, c5, bs 4 x⟩, ⟨A6, c6, bs 4 k⟩] : List Piece), p.l.length ≤ 1000 := by
  intro p hp
  simp only [List.mem_cons, List.not_mem_nil, or_false] at hp
  rcases hp with rfl | rfl | rfl | rfl | rfl | rfl <;> simp [bs_length]
theorem Rd.next {w w' : World} {A : Option Addr} {xs : List Value} (h : Rd w w.heap.size A xs) (hb : Below w.heap.size w w') : Rd w' w'.heap.size A xs := (h.below hb).more hb.size
theorem size_le_alloc (w : World) (o : Obj) : w.heap.size ≤ (w.alloc o).heap.size := by simp
theorem Rd.newS (w : World) (t : TypeId) (cs : Array Value) (ys : List Value) (h : cs = ys.toArray) : Rd (w.alloc (.cells cs t)) (w.alloc (.cells cs t)).heap.size (some ⟨w.heap.size, 0, none⟩) ys := (Rd.newL w t cs ys h).more (by simp)
theorem six_cells (A1 A2 A3 A4 A5 A6 : Option Addr) (c1 c2 c3 c4 c5 c6 f t a m x k : Nat) :
    #[Value.slice A1 2 c1, .slice A2 2 c2, .slice A3 4 c3, .slice A4 4 c4, .slice A5 4 c5, .slice A6 4 c6] = (([⟨A1, c1, bs 2 f⟩, ⟨A2, c2, bs 2 t⟩, ⟨A3, c3, bs 4 a⟩, ⟨A4, c4, bs 4 m⟩, ⟨A5, c5, bs 4 x⟩, ⟨A6, c6, bs 4 k⟩] : List Piece).map Piece.v).toArray := by
  simp [Piece.v, bs_length]
end Go.Proofs.YtgjeejdebneoaaaDoor
