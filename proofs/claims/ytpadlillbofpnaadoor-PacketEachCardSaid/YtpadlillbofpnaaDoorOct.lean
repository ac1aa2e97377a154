import Derived.Test.YtpadlillbofpnaaDoorRows
import Derived.Test.YtpadlillbofpnaaDoorBase
import Derived.Test.YtpadlillbofpnaaDoorNum
namespace Go.Proofs.YtpadlillbofpnaaDoor
set_option linter.unusedVariables false
set_option linter.unusedSimpArgs false
open Go.RowKit

/-- the table of widths lies where the program laid it -/
def WidthsAt (w : World) : Prop :=
  w.cell? ⟨0, 0, none⟩ = some (.int .i64 1) ∧ w.cell? ⟨0, 1, none⟩ = some (.int .i64 2) ∧ w.cell? ⟨0, 2, none⟩ = some (.int .i64 4)

def isW (n : Int) : Bool := n == 1 || n == 2 || n == 4

set_option maxHeartbeats 400000 in
theorem isWidth_any (n : Int) (w : World) (hw : WidthsAt w) :
    Calls Tryd.prog 58 #[.int .i64 n] w fun e w' => e = .returned (.bool (isW n)) ∧ w = w' := by
  obtain ⟨h0, h1, h2⟩ := hw
  have i0 : ∀ w, (Instr.index 110 (.agg #[.int .i64 1, .int .i64 2, .int .i64 4]) (.int .i64 0)).run Tryd.prog w = .ok (.int .i64 1) w := fun _ => by kernel_rfl
  have i1 : ∀ w, (Instr.index 110 (.agg #[.int .i64 1, .int .i64 2, .int .i64 4]) (.int .i64 1)).run Tryd.prog w = .ok (.int .i64 2) w := fun _ => by kernel_rfl
  have i2 : ∀ w, (Instr.index 110 (.agg #[.int .i64 1, .int .i64 2, .int .i64 4]) (.int .i64 2)).run Tryd.prog w = .ok (.int .i64 4) w := fun _ => by kernel_rfl
  go_enter Tryd.func58, Tryd.ntmps58
  go_wp2
  go_rounds 4
  all_goals (go_ret; refine ⟨?_, rfl⟩; first | (simp_all [isW]; done) | (simp_all [isW]; omega))

set_option maxHeartbeats 400000 in
theorem right_any (n : Int) (w : World) :
    Calls Tryd.prog 70 #[.int .i64 n] w fun e w' => e = .returned (.bool (isW n)) ∧ w = w' := by
  by_cases h1 : n = 1
  · subst h1
    go_enter Tryd.func70, Tryd.ntmps70
    go_wp2
    go_ret; exact ⟨rfl, rfl⟩
  by_cases h2 : n = 2
  · subst h2
    go_enter Tryd.func70, Tryd.ntmps70
    go_wp2
    go_ret; exact ⟨rfl, rfl⟩
  have g1 : (n == 1) = false := by simpa using h1
  have g2 : (n == 2) = false := by simpa using h2
  go_enter Tryd.func70, Tryd.ntmps70
  go_wp2
  go_ret; exact ⟨by simp [isW, g1, g2], rfl⟩

set_option maxHeartbeats 400000 in
theorem folded_any (l : List UInt8) (A : Option Addr) (c B : Nat) (w : World) (h : Rd w B A (l.map b8)) (hl : l.length ≤ 4) :
    Calls Tryd.prog 60 #[.slice A l.length c] w fun e w' => e = .returned (.int .u32 (be l)) ∧ w = w' := by
  by_cases h0 : 0 < l.length
  · obtain ⟨b, off, rfl, _, hc⟩ := h (by simpa using h0)
    go_enter Tryd.func60, Tryd.ntmps60
    go_wp2
    go_loop [3, 8] (fun n i => ∃ k : Nat, k ≤ l.length ∧ i = .int .i64 k ∧ n = .int .u32 (be (l.take k))) (fun _ i => l.length - (intOf i).toNat)
    case atStart => exact ⟨0, Nat.zero_le _, rfl, rfl⟩
    case round =>
      obtain ⟨k, hk, rfl, rfl⟩ := hrel
      have hb := be_lt (l.take k)
      by_cases hlt : k < l.length
      · have HB := Lib.hid (be_take l k hlt)
        have hcell := hc k (b8 l[k]) (by simp [hlt])
        clear hc
        generalize be (l.take k) = m at *
        have hm : m < 16777216 := by
          have : 256 ^ (l.take k).length ≤ 256 ^ 3 := Nat.pow_le_pow_right (by omega) (by simp; omega)
          omega
        have hx : l[k].toNat < 256 := UInt8.toNat_lt _
        generalize l[k] = x at *
        unfold b8 at hcell
        clear hb
        go_wp2
        exact ⟨⟨k + 1, by omega, by go_num, by rw [or_u32 m _ hm hx, HB.out]⟩, by simp [intOf]; omega⟩
      · obtain rfl : k = l.length := by omega
        rw [List.take_length]
        clear hb
        go_wp2
        go_ret
        exact ⟨rfl, rfl⟩
  · obtain rfl : l = [] := List.eq_nil_of_length_eq_zero (by omega)
    go_enter Tryd.func60, Tryd.ntmps60
    go_wp2
    go_rounds 1
    go_ret
    exact ⟨rfl, rfl⟩

theorem has_any (A : Option Addr) (n c : Nat) (at_ many : Int) (w : World) (hn : n ≤ 9223372036854775807) (hm0 : 0 ≤ many) (hm : many ≤ 9223372036854775807) :
    Calls Tryd.prog 59 #[.slice A n c, .int .i64 at_, .int .i64 many] w fun e w' => e = .returned (.bool (decide (at_ ≤ n - many))) ∧ w = w' := by
  go_enter Tryd.func59, Tryd.ntmps59
  go_wp2
  go_ret
  exact ⟨rfl, rfl⟩

set_option maxHeartbeats 400000 in
theorem cut_any (A : Option Addr) (n c : Nat) (at_ many : Nat) (w : World) (hn : n ≤ c) (hc : c ≤ 9223372036854775807) (hm : at_ + many ≤ n) (h0 : 0 < many) :
    Calls Tryd.prog 61 #[.slice A n c, .int .i64 at_, .int .i64 many] w fun e w' => e = .returned (.slice (A.map (fun x => x.add at_)) many many) ∧ w = w' := by
  have g0 : ¬ at_ + many = at_ := by omega
  have g1 : ¬ many = 0 := by omega
  go_enter Tryd.func61, Tryd.ntmps61
  go_wp2
  go_ret
  exact ⟨by simp [Nat.add_sub_cancel_left], rfl⟩


theorem isW_cases {k : Int} (h : isW k = true) : k = 1 ∨ k = 2 ∨ k = 4 := by
  simp [isW] at h; omega

/-- split: the bytes, in a block of their own -/
def putW (w : World) (k n : Nat) : World := w.alloc (.cells ((bs k n).map b8).toArray 5)

set_option maxHeartbeats 1000000 in
theorem split_any (n k : Nat) (w : World) (h1 : n < 4294967296) (hk : isW k = true) :
    Calls Tryd.prog 67 #[.int .u32 n, .int .i64 k] w fun e w' => e = .returned (.slice (some ⟨w.heap.size, 0, none⟩) k k) ∧ w' = putW w k n := by
  rcases isW_cases hk with h | h | h
  · obtain rfl : k = 1 := by omega
    have hmk : ∀ w, (Instr.makeSlice 22 (.int .i64 1) (.int .i64 1)).run Tryd.prog w = .ok (.slice (some ⟨w.heap.size, 0, none⟩) 1 1) (w.alloc (.cells #[.int .u8 0] 5)) := fun _ => by kernel_rfl
    go_enter Tryd.func67, Tryd.ntmps67
    go_wp2
    go_rounds 2
    go_ret
    refine ⟨rfl, ?_⟩
    simp [putW, bs, b8]
  · obtain rfl : k = 2 := by omega
    have hmk : ∀ w, (Instr.makeSlice 22 (.int .i64 2) (.int .i64 2)).run Tryd.prog w = .ok (.slice (some ⟨w.heap.size, 0, none⟩) 2 2) (w.alloc (.cells #[.int .u8 0, .int .u8 0] 5)) := fun _ => by kernel_rfl
    go_enter Tryd.func67, Tryd.ntmps67
    go_wp2
    go_rounds 3
    go_ret
    refine ⟨rfl, ?_⟩
    simp [putW, bs, b8]
  · obtain rfl : k = 4 := by omega
    have hmk : ∀ w, (Instr.makeSlice 22 (.int .i64 4) (.int .i64 4)).run Tryd.prog w = .ok (.slice (some ⟨w.heap.size, 0, none⟩) 4 4) (w.alloc (.cells #[.int .u8 0, .int .u8 0, .int .u8 0, .int .u8 0] 5)) := fun _ => by kernel_rfl
    go_enter Tryd.func67, Tryd.ntmps67
    go_wp2
    go_rounds 5
    go_ret
    refine ⟨rfl, ?_⟩
    simp [putW, bs, b8]
    rw [show (n : Int) / 256 / 256 / 256 % 256 = n / 16777216 by omega, show (n : Int) / 256 / 256 % 256 = n / 65536 % 256 by omega]

/-- what Put answers: the bytes and the error -/
def putF (n : Nat) (k : Int) : List UInt8 × Int :=
  if isW k = false then ([], 2) else if n < 256 ^ k.toNat then (bs k.toNat n, 0) else ([], 4)

/-- a slice of bytes and an error are handed back; nothing that was there has changed -/
def GivesB (l : List UInt8) (err : Int) (w : World) (e : Ending) (w' : World) : Prop :=
  ∃ A c, e = .returned (.tuple #[.slice A l.length c, .int .i64 err]) ∧ l.length ≤ c ∧ c ≤ 9223372036854775807 ∧ Rd w' w'.heap.size A (l.map b8) ∧ Below w.heap.size w w'

theorem putW_below (w : World) (k n : Nat) : Below w.heap.size w (putW w k n) := (Below.refl _ _).alloc (Nat.le_refl _) _
theorem putW_size (w : World) (k n : Nat) : (putW w k n).heap.size = w.heap.size + 1 := by simp [putW]

set_option maxHeartbeats 1000000 in
theorem put_any (n : Nat) (k : Int) (w : World) (hw : WidthsAt w) (hn : n < 4294967296) :
    Calls Tryd.prog 50 #[.int .u32 n, .int .i64 k] w (GivesB (putF n k).1 (putF n k).2 w) := by
  by_cases hk : isW k = false
  · have hP := Lib.hid (show putF n k = ([], 2) by simp [putF, hk])
    go_enter Tryd.func50, Tryd.ntmps50
    go_wp2_with fail
    refine scope_fwd 0 rfl ?_
    go_wp2_with (go_at_call 58; refine (isWidth_any _ _ hw).mono ?_; rintro e w' ⟨rfl, rfl⟩)
    go_step3
    refine ⟨rfl, ?_⟩
    go_wp2
    rw [Exit.noGoto_ret]
    go_ret2
    rw [hP.out]
    exact ⟨none, 0, rfl, by simp, by simp, Rd.nil, Below.refl _ _⟩
  · have hk' : isW k = true := by simpa using hk
    by_cases hr : n < 256 ^ k.toNat
    · have hP := Lib.hid (show putF n k = (bs k.toNat n, 0) by simp [putF, hk', hr])
      have hr' := Lib.hid hr
      clear hk hr
      rcases isW_cases hk' with rfl | rfl | rfl
      all_goals
        have hh := hr'.out
        simp at hh
        go_enter Tryd.func50, Tryd.ntmps50
        go_wp2_with fail
        refine scope_fwd 0 rfl ?_
        go_wp2_with (first
          | (go_at_call 58; refine (isWidth_any _ _ hw).mono ?_; rintro e w' ⟨rfl, rfl⟩)
          | (go_at_call 67; refine (split_any n _ _ hn hk').mono ?_; rintro e w' ⟨rfl, rfl⟩))
        rw [jump_ret]
        go_ret2
        rw [hP.out]
        exact ⟨_, _, by rw [bs_length]; rfl, by simp [bs_length], by simp, (Rd.new w 5 _).more (by simp [putW_size]), putW_below _ _ _⟩
    · have hP := Lib.hid (show putF n k = ([], 4) by simp [putF, hk', hr])
      have hr' := Lib.hid hr
      clear hk hr
      rcases isW_cases hk' with rfl | rfl | rfl
      all_goals
        have hh := hr'.out
        simp at hh
        first
          | (exfalso; omega)
          | (go_enter Tryd.func50, Tryd.ntmps50
             go_wp2_with fail
             refine scope_fwd 0 rfl ?_
             go_wp2_with (go_at_call 58; refine (isWidth_any _ _ hw).mono ?_; rintro e w' ⟨rfl, rfl⟩)
             go_step3
             refine ⟨rfl, ?_⟩
             go_wp2
             rw [Exit.noGoto_ret]
             go_ret2
             rw [hP.out]
             exact ⟨none, 0, rfl, by simp, by simp, Rd.nil, Below.refl _ _⟩)

theorem folded_len (l : List UInt8) (n : Nat) (hn : l.length = n) (A : Option Addr) (c B : Nat) (w : World) (h : Rd w B A (l.map b8)) (hl : n ≤ 4) :
    Calls Tryd.prog 60 #[.slice A n c] w fun e w' => e = .returned (.int .u32 (be l)) ∧ w = w' := by
  subst hn
  exact folded_any l A c B w h hl

/-- what Read answers: the number and the error -/
def rdF (l : List UInt8) (at_ k : Int) : Nat × Int :=
  if isW k = false then (0, 2) else if at_ < 0 then (0, 4) else if l.length - k < at_ then (0, 130) else (be ((l.drop at_.toNat).take k.toNat), 0)

/-- a number and an error are handed back; the world is as it was -/
def GivesN (p : Nat × Int) (w : World) (e : Ending) (w' : World) : Prop := e = .returned (.tuple #[.int .u32 p.1, .int .i64 p.2]) ∧ w = w'

set_option maxHeartbeats 1000000 in
theorem read_any (l : List UInt8) (n : Nat) (hn : l.length = n) (A : Option Addr) (c B : Nat) (w : World) (hw : WidthsAt w) (h : Rd w B A (l.map b8)) (hlc : n ≤ c) (hc : c ≤ 9223372036854775807) (at_ k : Int) :
    Calls Tryd.prog 44 #[.slice A n c, .int .i64 at_, .int .i64 k] w (GivesN (rdF l at_ k) w) := by
  by_cases hk : isW k = false
  · have hP := Lib.hid (show rdF l at_ k = (0, 2) by simp [rdF, hk])
    clear hn
    go_enter Tryd.func44, Tryd.ntmps44
    go_wp2_with fail
    refine scope_fwd 0 rfl ?_
    go_wp2_with (go_at_call 58; refine (isWidth_any _ _ hw).mono ?_; rintro e w' ⟨rfl, rfl⟩)
    go_step3
    refine ⟨rfl, ?_⟩
    go_wp2
    rw [Exit.noGoto_ret]
    go_ret2
    rw [hP.out]
    exact ⟨rfl, rfl⟩
  have hk' : isW k = true := by simpa using hk
  have hk1 := isW_cases hk'
  clear hk
  by_cases h0 : at_ < 0
  · have hP := Lib.hid (show rdF l at_ k = (0, 4) by simp [rdF, hk', h0])
    clear hn hk1
    go_enter Tryd.func44, Tryd.ntmps44
    go_wp2_with fail
    refine scope_fwd 0 rfl ?_
    go_wp2_with (go_at_call 58; refine (isWidth_any _ _ hw).mono ?_; rintro e w' ⟨rfl, rfl⟩)
    go_step3
    refine ⟨rfl, ?_⟩
    go_wp2
    rw [Exit.noGoto_ret]
    go_ret2
    rw [hP.out]
    exact ⟨rfl, rfl⟩
  by_cases h1 : (n : Int) - k < at_
  · have hP := Lib.hid (show rdF l at_ k = (0, 130) by simp [rdF, hk', h0, hn, h1])
    clear hn
    have hd : decide (at_ ≤ (n : Int) - k) = false := by simp; omega
    go_enter Tryd.func44, Tryd.ntmps44
    go_wp2_with fail
    refine scope_fwd 0 rfl ?_
    go_wp2_with (first
      | (go_at_call 58; refine (isWidth_any _ _ hw).mono ?_; rintro e w' ⟨rfl, rfl⟩)
      | (go_at_call 59; refine (has_any _ _ _ _ _ _ (by omega) (by omega) (by omega)).mono ?_; rintro e w' ⟨rfl, rfl⟩))
    go_step3
    refine ⟨rfl, ?_⟩
    go_wp2
    rw [Exit.noGoto_ret]
    go_ret2
    rw [hP.out]
    exact ⟨rfl, rfl⟩
  · have hP := Lib.hid (show rdF l at_ k = (be ((l.drop at_.toNat).take k.toNat), 0) by simp [rdF, hk', h0, hn, h1])
    have hd : decide (at_ ≤ (n : Int) - k) = true := by simp; omega
    obtain ⟨a, rfl⟩ : ∃ a : Nat, at_ = a := ⟨at_.toNat, by omega⟩
    obtain ⟨k, rfl⟩ : ∃ j : Nat, k = j := ⟨k.toNat, by omega⟩
    have hR := h.cut a k (by omega) (by simp; omega)
    rw [← List.map_drop, ← List.map_take] at hR
    simp only [Int.toNat_natCast] at hP
    have hl : ((l.drop a).take k).length = k := by simp; omega
    generalize (l.drop a).take k = l' at *
    have HL := Lib.hid hl
    clear hn hl
    go_enter Tryd.func44, Tryd.ntmps44
    go_wp2_with fail
    refine scope_fwd 0 rfl ?_
    go_wp2_with (first
      | (go_at_call 58; refine (isWidth_any _ _ hw).mono ?_; rintro e w' ⟨rfl, rfl⟩)
      | (go_at_call 59; refine (has_any _ _ _ _ _ _ (by omega) (by omega) (by omega)).mono ?_; rintro e w' ⟨rfl, rfl⟩)
      | (go_at_call 61; refine (cut_any _ _ _ _ _ _ (by omega) (by omega) (by omega) (by omega)).mono ?_; rintro e w' ⟨rfl, rfl⟩)
      | (go_at_call 60; refine (folded_len l' _ HL.out _ _ _ _ hR (by omega)).mono ?_; rintro e w' ⟨rfl, rfl⟩))
    rw [jump_ret]
    go_ret2
    rw [hP.out]
    exact ⟨rfl, rfl⟩

set_option maxHeartbeats 2000000 in
theorem refPut_any (n : Nat) (k : Int) (w : World) (hn : n < 4294967296) :
    Calls Tryd.prog 71 #[.int .u32 n, .int .i64 k] w (GivesB (putF n k).1 (putF n k).2 w) := by
  by_cases hk : isW k = false
  · have hP := Lib.hid (show putF n k = ([], 2) by simp [putF, hk])
    go_enter Tryd.func71, Tryd.ntmps71
    go_wp2_with (go_at_call 70; refine (right_any _ _).mono ?_; rintro e w' ⟨rfl, rfl⟩)
    go_ret2
    rw [hP.out]
    exact ⟨none, 0, rfl, by simp, by simp, Rd.nil, Below.refl _ _⟩
  have hk' : isW k = true := by simpa using hk
  clear hk
  rcases isW_cases hk' with rfl | rfl | rfl
  · have hmk : ∀ w, (Instr.makeSlice 22 (.int .i64 1) (.int .i64 1)).run Tryd.prog w = .ok (.slice (some ⟨w.heap.size, 0, none⟩) 1 1) (w.alloc (.cells #[.int .u8 0] 5)) := fun _ => by kernel_rfl
    by_cases hr : n < 256
    · have hP := Lib.hid (show putF n 1 = (bs 1 n, 0) by simp [putF, hk', hr])
      go_enter Tryd.func71, Tryd.ntmps71
      go_wp2_with (go_at_call 70; refine (right_any _ _).mono ?_; rintro e w' ⟨rfl, rfl⟩)
      refine wp_loop_rounds 2 ?_
      rw [rounds_succ]; go_wp2
      rw [rounds_succ]; go_wp2
      go_ret2
      rw [hP.out]
      refine ⟨_, _, by rw [bs_length]; rfl, by simp [bs_length], by simp, ?_, (Below.refl _ _).alloc (Nat.le_refl _) _⟩
      have hR := (Rd.new w 5 ((bs 1 n).map b8))
      simp [bs, b8] at hR ⊢
      exact hR
    · have hP := Lib.hid (show putF n 1 = ([], 4) by simp [putF, hk', hr])
      have hr2 : 256 ≤ n := by omega
      go_enter Tryd.func71, Tryd.ntmps71
      go_wp2_with (go_at_call 70; refine (right_any _ _).mono ?_; rintro e w' ⟨rfl, rfl⟩)
      refine wp_loop_rounds 2 ?_
      rw [rounds_succ]; go_wp2
      rw [rounds_succ]; go_wp2
      go_ret2
      rw [hP.out]
      exact ⟨none, 0, rfl, by simp, by simp, Rd.nil, (Below.refl _ _).alloc (Nat.le_refl _) _⟩
  · have hmk : ∀ w, (Instr.makeSlice 22 (.int .i64 2) (.int .i64 2)).run Tryd.prog w = .ok (.slice (some ⟨w.heap.size, 0, none⟩) 2 2) (w.alloc (.cells #[.int .u8 0, .int .u8 0] 5)) := fun _ => by kernel_rfl
    by_cases hr : n < 65536
    · have hP := Lib.hid (show putF n 2 = (bs 2 n, 0) by simp [putF, hk', hr])
      go_enter Tryd.func71, Tryd.ntmps71
      go_wp2_with (go_at_call 70; refine (right_any _ _).mono ?_; rintro e w' ⟨rfl, rfl⟩)
      refine wp_loop_rounds 3 ?_
      rw [rounds_succ]; go_wp2
      rw [rounds_succ]; go_wp2
      rw [rounds_succ]; go_wp2
      go_ret2
      rw [hP.out]
      refine ⟨_, _, by rw [bs_length]; rfl, by simp [bs_length], by simp, ?_, (Below.refl _ _).alloc (Nat.le_refl _) _⟩
      have hR := (Rd.new w 5 ((bs 2 n).map b8))
      simp [bs, b8] at hR ⊢
      exact hR
    · have hP := Lib.hid (show putF n 2 = ([], 4) by simp [putF, hk', hr])
      have hr2 : 65536 ≤ n := by omega
      go_enter Tryd.func71, Tryd.ntmps71
      go_wp2_with (go_at_call 70; refine (right_any _ _).mono ?_; rintro e w' ⟨rfl, rfl⟩)
      refine wp_loop_rounds 3 ?_
      rw [rounds_succ]; go_wp2
      rw [rounds_succ]; go_wp2
      rw [rounds_succ]; go_wp2
      go_ret2
      rw [hP.out]
      exact ⟨none, 0, rfl, by simp, by simp, Rd.nil, (Below.refl _ _).alloc (Nat.le_refl _) _⟩
  · have hmk : ∀ w, (Instr.makeSlice 22 (.int .i64 4) (.int .i64 4)).run Tryd.prog w = .ok (.slice (some ⟨w.heap.size, 0, none⟩) 4 4) (w.alloc (.cells #[.int .u8 0, .int .u8 0, .int .u8 0, .int .u8 0] 5)) := fun _ => by kernel_rfl
    by_cases hr : n < 4294967296
    · have hP := Lib.hid (show putF n 4 = (bs 4 n, 0) by simp [putF, hk', hr])
      go_enter Tryd.func71, Tryd.ntmps71
      go_wp2_with (go_at_call 70; refine (right_any _ _).mono ?_; rintro e w' ⟨rfl, rfl⟩)
      refine wp_loop_rounds 5 ?_
      rw [rounds_succ]; go_wp2
      rw [rounds_succ]; go_wp2
      rw [rounds_succ]; go_wp2
      rw [rounds_succ]; go_wp2
      rw [rounds_succ]; go_wp2
      go_ret2
      rw [hP.out]
      refine ⟨_, _, by rw [bs_length]; rfl, by simp [bs_length], by simp, ?_, (Below.refl _ _).alloc (Nat.le_refl _) _⟩
      have hR := (Rd.new w 5 ((bs 4 n).map b8))
      simp [bs, b8] at hR ⊢
      exact hR
    · exact absurd hn hr

set_option maxHeartbeats 1000000 in
theorem refRead_any (l : List UInt8) (n : Nat) (hn : l.length = n) (A : Option Addr) (c B : Nat) (w : World) (h : Rd w B A (l.map b8)) (hlc : n ≤ c) (hc : c ≤ 9223372036854775807) (at_ k : Int) :
    Calls Tryd.prog 66 #[.slice A n c, .int .i64 at_, .int .i64 k] w (GivesN (rdF l at_ k) w) := by
  by_cases hk : isW k = false
  · have hP := Lib.hid (show rdF l at_ k = (0, 2) by simp [rdF, hk])
    clear hn
    go_enter Tryd.func66, Tryd.ntmps66
    go_wp2_with (go_at_call 70; refine (right_any _ _).mono ?_; rintro e w' ⟨rfl, rfl⟩)
    go_ret2
    rw [hP.out]
    exact ⟨rfl, rfl⟩
  have hk' : isW k = true := by simpa using hk
  have hk1 := isW_cases hk'
  clear hk
  by_cases h0 : at_ < 0
  · have hP := Lib.hid (show rdF l at_ k = (0, 4) by simp [rdF, hk', h0])
    clear hn hk1
    go_enter Tryd.func66, Tryd.ntmps66
    go_wp2_with (go_at_call 70; refine (right_any _ _).mono ?_; rintro e w' ⟨rfl, rfl⟩)
    go_ret2
    rw [hP.out]
    exact ⟨rfl, rfl⟩
  by_cases h1 : (n : Int) - k < at_
  · have hP := Lib.hid (show rdF l at_ k = (0, 130) by simp [rdF, hk', h0, hn, h1])
    clear hn
    by_cases h2 : (n : Int) < at_
    all_goals
      have h3 : (n : Int) - at_ < k := by omega
      go_enter Tryd.func66, Tryd.ntmps66
      go_wp2_with (go_at_call 70; refine (right_any _ _).mono ?_; rintro e w' ⟨rfl, rfl⟩)
      go_ret2
      rw [hP.out]
      exact ⟨rfl, rfl⟩
  · have hP := Lib.hid (show rdF l at_ k = (be ((l.drop at_.toNat).take k.toNat), 0) by simp [rdF, hk', h0, hn, h1])
    have h2 : ¬ (n : Int) < at_ := by omega
    have h3 : ¬ (n : Int) - at_ < k := by omega
    obtain ⟨a, rfl⟩ : ∃ a : Nat, at_ = a := ⟨at_.toNat, by omega⟩
    obtain ⟨k, rfl⟩ : ∃ j : Nat, k = j := ⟨k.toNat, by omega⟩
    obtain ⟨b, off, rfl, _, hcell⟩ := h (by simp; omega)
    have hcl : ∀ i (hi : i < k), ∃ x, ((l.drop a).take k)[i]? = some x ∧ w.cell? ⟨b, off + (a + i), none⟩ = some (b8 x) := fun i hi =>
      ⟨l[a + i]'(by omega), by rw [List.getElem?_take, if_pos hi, List.getElem?_drop]; exact List.getElem?_eq_getElem (by omega), hcell (a + i) _ (by rw [List.getElem?_map, List.getElem?_eq_getElem (by omega)]; rfl)⟩
    simp only [Int.toNat_natCast] at hP
    have hl : ((l.drop a).take k).length = k := by simp; omega
    generalize (l.drop a).take k = l' at *
    have HL := Lib.hid hl
    have HC := Lib.hid hcl
    clear hn hl hcell hcl h
    go_enter Tryd.func66, Tryd.ntmps66
    go_wp2_with (go_at_call 70; refine (right_any _ _).mono ?_; rintro e w' ⟨rfl, rfl⟩)
    go_loop [8, 9] (fun v i => ∃ j : Nat, j ≤ k ∧ i = .int .i64 j ∧ v = .int .u32 (be (l'.take j))) (fun _ i => k - (intOf i).toNat)
    case atStart => exact ⟨0, Nat.zero_le _, rfl, rfl⟩
    case round =>
      obtain ⟨j, hj, rfl, rfl⟩ := hrel
      have hb := be_lt (l'.take j)
      by_cases hlt : j < k
      · obtain ⟨x, hx, hcell⟩ := HC.out j hlt
        have hlj : j < l'.length := by have := HL.out; omega
        have hx' : l'[j] = x := by rw [List.getElem?_eq_getElem hlj] at hx; injection hx
        have HB := Lib.hid (hx' ▸ be_take l' j hlj)
        clear hx hx'
        have hm : be (l'.take j) < 16777216 := by
          have : 256 ^ (l'.take j).length ≤ 256 ^ 3 := Nat.pow_le_pow_right (by omega) (by simp; omega)
          omega
        generalize be (l'.take j) = m at *
        have hx : x.toNat < 256 := UInt8.toNat_lt _
        unfold b8 at hcell
        clear hb hlj
        go_wp2
        exact ⟨⟨j + 1, by omega, by go_num, by rw [HB.out]; go_num⟩, by simp [intOf]; omega⟩
      · obtain rfl : j = l'.length := by have := HL.out; omega
        rw [List.take_length]
        clear hb
        go_wp2
        go_ret2
        rw [hP.out]
        exact ⟨rfl, rfl⟩
end Go.Proofs.YtpadlillbofpnaaDoor
