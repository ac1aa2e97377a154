import Derived.Test.YtgjeejdebneoaaaDoorRows
import Derived.Test.YtgjeejdebneoaaaDoorBase
import Derived.Test.YtgjeejdebneoaaaDoorNum
namespace Go.Proofs.YtgjeejdebneoaaaDoor
set_option linter.unusedVariables false
set_option linter.unusedSimpArgs false
open Go.RowKit

def isW (n : Int) : Bool := n == 1 || n == 2 || n == 4

theorem isW_cases {k : Int} (h : isW k = true) : k = 1 ∨ k = 2 ∨ k = 4 := by
  simp [isW] at h; omega

/-- split: the bytes, in a block of their own -/
def putW (w : World) (k n : Nat) : World := w.alloc (.cells ((bs k n).map b8).toArray 5)

/-- what Put answers: the bytes and the error -/
def putF (n : Nat) (k : Int) : List UInt8 × Int :=
  if isW k = false then ([], 2) else if n < 256 ^ k.toNat then (bs k.toNat n, 0) else ([], 4)

/-- a slice of bytes and an error are handed back; nothing that was there has changed -/
def GivesB (l : List UInt8) (err : Int) (w : World) (e : Ending) (w' : World) : Prop :=
  ∃ A c, e = .returned (.tuple #[.slice A l.length c, .int .i64 err]) ∧ l.length ≤ c ∧ c ≤ 9223372036854775807 ∧ Rd w' w'.heap.size A (l.map b8) ∧ Below w.heap.size w w'

theorem putW_below (w : World) (k n : Nat) : Below w.heap.size w (putW w k n) := (Below.refl _ _).alloc (Nat.le_refl _) _
theorem putW_size (w : World) (k n : Nat) : (putW w k n).heap.size = w.heap.size + 1 := by simp [putW]

/-- what Read answers: the number and the error -/
def rdF (l : List UInt8) (at_ k : Int) : Nat × Int :=
  if isW k = false then (0, 2) else if at_ < 0 then (0, 4) else if l.length - k < at_ then (0, 130) else (be ((l.drop at_.toNat).take k.toNat), 0)

/-- a number and an error are handed back; the world is as it was -/
def GivesN (p : Nat × Int) (w : World) (e : Ending) (w' : World) : Prop := e = .returned (.tuple #[.int .u32 p.1, .int .i64 p.2]) ∧ w = w'

end Go.Proofs.YtgjeejdebneoaaaDoor
