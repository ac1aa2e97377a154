/- The document's Bytes and Right of an entry. -/
import Derived.Test.YtpadlillbofpnaaDoorERef
import Derived.Test.YtpadlillbofpnaaDoorEHolds
import Derived.Deep.AppendLies
namespace Go.Proofs.YtpadlillbofpnaaDoor
set_option linter.unusedVariables false
set_option linter.unusedSimpArgs false
open Go.RowKit
set_option maxRecDepth 100000

/-- ref03.Put of a number that its width holds, to the block -/
theorem refPut2x (n : Nat) (w : World) (hn : n < 65536) :
    Calls Tryd.prog 71 #[.int .u32 n, .int .i64 2] w fun e w' => e = .returned (.tuple #[.slice (some ⟨w.heap.size, 0, none⟩) 2 2, .int .i64 0]) ∧ w' = putW w 2 n := by
  have hmk : ∀ w, (Instr.makeSlice 22 (.int .i64 2) (.int .i64 2)).run Tryd.prog w = .ok (.slice (some ⟨w.heap.size, 0, none⟩) 2 2) (w.alloc (.cells #[.int .u8 0, .int .u8 0] 5)) := fun _ => by kernel_rfl
  go_enter Tryd.func71, Tryd.ntmps71
  go_wp2_with (go_at_call 70; refine (right_any _ _).mono ?_; rintro e w' ⟨rfl, rfl⟩)
  refine wp_loop_rounds 3 ?_
  rw [rounds_succ]; go_wp2
  rw [rounds_succ]; go_wp2
  rw [rounds_succ]; go_wp2
  go_ret2
  exact ⟨rfl, by simp [putW, bs, b8]⟩
theorem refPut4x (n : Nat) (w : World) (hn : n < 4294967296) :
    Calls Tryd.prog 71 #[.int .u32 n, .int .i64 4] w fun e w' => e = .returned (.tuple #[.slice (some ⟨w.heap.size, 0, none⟩) 4 4, .int .i64 0]) ∧ w' = putW w 4 n := by
  have hmk : ∀ w, (Instr.makeSlice 22 (.int .i64 4) (.int .i64 4)).run Tryd.prog w = .ok (.slice (some ⟨w.heap.size, 0, none⟩) 4 4) (w.alloc (.cells #[.int .u8 0, .int .u8 0, .int .u8 0, .int .u8 0] 5)) := fun _ => by kernel_rfl
  go_enter Tryd.func71, Tryd.ntmps71
  go_wp2_with (go_at_call 70; refine (right_any _ _).mono ?_; rintro e w' ⟨rfl, rfl⟩)
  refine wp_loop_rounds 5 ?_
  rw [rounds_succ]; go_wp2
  rw [rounds_succ]; go_wp2
  rw [rounds_succ]; go_wp2
  rw [rounds_succ]; go_wp2
  rw [rounds_succ]; go_wp2
  go_ret2
  exact ⟨rfl, by simp [putW, bs, b8]⟩
/-- a row of its own is handed back -/
def GivesO (base : Nat) (l : List UInt8) (w : World) (e : Ending) (w' : World) : Prop :=
  ∃ g c, e = .returned (.slice (some ⟨g, 0, none⟩) l.length c) ∧ w'.ownsRow base 5 1 (.slice (some ⟨g, 0, none⟩) l.length c) l.length (l.map b8) ∧ Below w.heap.size w w' ∧ w.heap.size ≤ g
theorem putW_own (base k n : Nat) (w : World) (hb : base ≤ w.heap.size) (hk : k ≤ 4) : (putW w k n).ownsRow base 5 1 (.slice (some ⟨w.heap.size, 0, none⟩) k k) k ((bs k n).map b8) := by
  have := World.ownsRow_lit (e := 5) (size := 1) w ((bs k n).map b8).toArray k hb (by simp only [maxLen]; omega) (by simp [bs_length])
  simpa [putW] using this
theorem refB2 (n base : Nat) (w : World) (hb : base ≤ w.heap.size) (hn : n < 65536) : Calls Tryd.prog 68 #[.int .u32 n, .int .i64 2] w (GivesO base (bs 2 n) w) := by
  go_enter Tryd.func68, Tryd.ntmps68
  go_wp2_with (go_at_call 71; refine (refPut2x n _ hn).mono ?_; rintro e w' ⟨rfl, rfl⟩)
  go_ret
  exact ⟨w.heap.size, 2, by rw [bs_length]; rfl, by rw [bs_length]; exact putW_own base 2 n w hb (by omega), putW_below _ _ _, Nat.le_refl _⟩
theorem refB4 (n base : Nat) (w : World) (hb : base ≤ w.heap.size) (hn : n < 4294967296) : Calls Tryd.prog 68 #[.int .u32 n, .int .i64 4] w (GivesO base (bs 4 n) w) := by
  go_enter Tryd.func68, Tryd.ntmps68
  go_wp2_with (go_at_call 71; refine (refPut4x n _ hn).mono ?_; rintro e w' ⟨rfl, rfl⟩)
  go_ret
  exact ⟨w.heap.size, 4, by rw [bs_length]; rfl, by rw [bs_length]; exact putW_own base 4 n w hb (by omega), putW_below _ _ _, Nat.le_refl _⟩

/-- may an entry's Family and Tag be? -/
def rightF (f t : Int) : Bool := decide (0 ≤ f ∧ f ≤ 65535 ∧ 0 ≤ t ∧ t ≤ 65535)
theorem refRightE_any (f t a m x k : Int) (w : World) :
    Calls Tryd.prog 37 #[.agg #[.int .i64 f, .int .i64 t, .int .u32 a, .int .u32 m, .int .u32 x, .int .u32 k]] w fun e w' => e = .returned (.bool (rightF f t)) ∧ Below w.heap.size w w' := by
  have HR := Lib.hid (show rightF f t = decide (0 ≤ f ∧ f ≤ 65535 ∧ 0 ≤ t ∧ t ≤ 65535) from rfl)
  by_cases h1 : 0 ≤ f
  · by_cases h2 : f ≤ 65535
    · by_cases h3 : 0 ≤ t
      · by_cases h4 : t ≤ 65535
        all_goals
          go_enter Tryd.func37, Tryd.ntmps37
          go_wp2_with fail
          go_ret
          rw [HR.out]
          exact ⟨ret_bool (by simp; omega), balloc (Below.refl _ _) _⟩
      · go_enter Tryd.func37, Tryd.ntmps37
        go_wp2_with fail
        go_ret
        rw [HR.out]
        exact ⟨ret_bool (by simp; omega), balloc (Below.refl _ _) _⟩
    · go_enter Tryd.func37, Tryd.ntmps37
      go_wp2_with fail
      go_ret
      rw [HR.out]
      exact ⟨ret_bool (by simp; omega), balloc (Below.refl _ _) _⟩
  · go_enter Tryd.func37, Tryd.ntmps37
    go_wp2_with fail
    go_ret
    rw [HR.out]
    exact ⟨ret_bool (by simp; omega), balloc (Below.refl _ _) _⟩
end Go.Proofs.YtpadlillbofpnaaDoor
