/- entry: why an entry is left out; the entry of a prefix; the prefix of an entry; the references beside. -/
import Derived.Test.YtgjeejdebneoaaaDoorPfxR
namespace Go.Proofs.YtgjeejdebneoaaaDoor
set_option linter.unusedVariables false
set_option linter.unusedSimpArgs false
open Go.RowKit
set_option maxRecDepth 100000
theorem ret_bool {a b : Bool} (h : a = b) : Ending.returned (.bool a) = .returned (.bool b) := by rw [h]
theorem ret_int {k : IntKind} {a b : Int} (h : a = b) : Ending.returned (.int k a) = .returned (.int k b) := by rw [h]

/-- is an address of a mask one that is left out? -/
def kindBad (a m : Nat) : Bool := (decide (2 ≤ kindF a) && decide (kindF a ≤ 5)) || (decide (kindF a = 1) && decide (m ≠ 0))
theorem kindF_range (a : Nat) : 1 ≤ kindF a ∧ kindF a ≤ 6 := by
  unfold kindF; repeat' split
  all_goals omega

/-- what one rule says of an entry -/
def ruleE (j : Nat) (f : Int) (a m x k : Nat) : Bool := match j with
  | 0 => decide (f ≠ 2) | 1 => decide ((lenF m).2 ≠ 0) | 2 => decide (bits .andNot .u32 (a : Int) (m : Int) ≠ 0) | 3 => kindBad a m | 4 => decide (x ≠ 0) | _ => decide (k < 1 ∨ 16 < k)
def fromE : Nat → Nat → Int → Nat → Nat → Nat → Nat → Nat
  | 0, _, _, _, _, _, _ => 0
  | n + 1, j, f, a, m, x, k => if ruleE j f a m x k then j + 1 else fromE n (j + 1) f a m x k
/-- why an entry is left out -/
def whyF (f : Int) (a m x k : Nat) : Nat := fromE 6 0 f a m x k

set_option maxHeartbeats 400000 in
theorem ruleE0 (f t : Int) (a m x k : Nat) (w : World) (ha : a < 4294967296) (hm : m < 4294967296) (hx : x < 4294967296) (hk : k < 4294967296) :
    Calls Tryd.prog 103 #[.agg #[.int .i64 f, .int .i64 t, .int .u32 a, .int .u32 m, .int .u32 x, .int .u32 k]] w fun e w' => e = .returned (.bool (ruleE 0 f a m x k)) ∧ Below w.heap.size w w' := by
  go_enter Tryd.func103, Tryd.ntmps103
  go_wp2
  go_ret
  exact ⟨ret_bool (by rw [Bool.eq_iff_iff]; simp [ruleE]), balloc (Below.refl _ _) _⟩

set_option maxHeartbeats 400000 in
theorem ruleE1 (f t : Int) (a m x k : Nat) (w : World) (ha : a < 4294967296) (hm : m < 4294967296) (hx : x < 4294967296) (hk : k < 4294967296) :
    Calls Tryd.prog 104 #[.agg #[.int .i64 f, .int .i64 t, .int .u32 a, .int .u32 m, .int .u32 x, .int .u32 k]] w fun e w' => e = .returned (.bool (ruleE 1 f a m x k)) ∧ Below w.heap.size w w' := by
  go_enter Tryd.func104, Tryd.ntmps104
  go_wp2_with (go_at_call 105; refine (len_any m _ hm).mono ?_; rintro e w' ⟨rfl, rfl⟩)
  go_ret
  exact ⟨ret_bool (by rw [Bool.eq_iff_iff]; simp [ruleE]), balloc (Below.refl _ _) _⟩

set_option maxHeartbeats 400000 in
theorem ruleE2 (f t : Int) (a m x k : Nat) (w : World) (ha : a < 4294967296) (hm : m < 4294967296) (hx : x < 4294967296) (hk : k < 4294967296) :
    Calls Tryd.prog 106 #[.agg #[.int .i64 f, .int .i64 t, .int .u32 a, .int .u32 m, .int .u32 x, .int .u32 k]] w fun e w' => e = .returned (.bool (ruleE 2 f a m x k)) ∧ Below w.heap.size w w' := by
  go_enter Tryd.func106, Tryd.ntmps106
  go_wp2
  go_ret
  exact ⟨ret_bool (by rw [Bool.eq_iff_iff]; simp [ruleE]), balloc (Below.refl _ _) _⟩

set_option maxHeartbeats 400000 in
theorem ruleE3 (f t : Int) (a m x k : Nat) (w : World) (ha : a < 4294967296) (hm : m < 4294967296) (hx : x < 4294967296) (hk : k < 4294967296) :
    Calls Tryd.prog 107 #[.agg #[.int .i64 f, .int .i64 t, .int .u32 a, .int .u32 m, .int .u32 x, .int .u32 k]] w fun e w' => e = .returned (.bool (ruleE 3 f a m x k)) ∧ Below w.heap.size w w' := by
  have hkr := kindF_range a
  have hkb : ruleE 3 f a m x k = kindBad a m := rfl
  rw [hkb]
  unfold kindBad
  have hc := fun W => kind_any a W ha
  generalize kindF a = q at *
  have HC := Lib.hid hc
  clear hc hkb
  rcases (by omega : q = 1 ∨ q = 2 ∨ q = 3 ∨ q = 4 ∨ q = 5 ∨ q = 6) with rfl | rfl | rfl | rfl | rfl | rfl
  all_goals
    go_enter Tryd.func107, Tryd.ntmps107
    go_wp2_with fail
    refine (HC.out _).mono ?_
    rintro e w1 ⟨rfl, hb⟩
    have hc3 : w1.cell? ⟨w.heap.size, 3, none⟩ = some (.int .u32 m) := (hb.cell (p := ⟨w.heap.size, 3, none⟩) (by simp)).trans (by simp)
    replace hb := bnext (balloc (Below.refl _ w) (.cells #[.int .i64 f, .int .i64 t, .int .u32 a, .int .u32 m, .int .u32 x, .int .u32 k] 98)) hb
    go_wp2_with fail
    go_ret
    refine ⟨?_, hb⟩
    exact ret_bool (by first | rfl | (rw [Bool.eq_iff_iff]; simp))

set_option maxHeartbeats 400000 in
theorem ruleE4 (f t : Int) (a m x k : Nat) (w : World) (ha : a < 4294967296) (hm : m < 4294967296) (hx : x < 4294967296) (hk : k < 4294967296) :
    Calls Tryd.prog 108 #[.agg #[.int .i64 f, .int .i64 t, .int .u32 a, .int .u32 m, .int .u32 x, .int .u32 k]] w fun e w' => e = .returned (.bool (ruleE 4 f a m x k)) ∧ Below w.heap.size w w' := by
  go_enter Tryd.func108, Tryd.ntmps108
  go_wp2
  go_ret
  exact ⟨ret_bool (by rw [Bool.eq_iff_iff]; simp [ruleE]), balloc (Below.refl _ _) _⟩

set_option maxHeartbeats 400000 in
theorem ruleE5 (f t : Int) (a m x k : Nat) (w : World) (ha : a < 4294967296) (hm : m < 4294967296) (hx : x < 4294967296) (hk : k < 4294967296) :
    Calls Tryd.prog 109 #[.agg #[.int .i64 f, .int .i64 t, .int .u32 a, .int .u32 m, .int .u32 x, .int .u32 k]] w fun e w' => e = .returned (.bool (ruleE 5 f a m x k)) ∧ Below w.heap.size w w' := by
  by_cases h1 : k < 1
  all_goals
    go_enter Tryd.func109, Tryd.ntmps109
    go_wp2
    go_ret
    refine ⟨?_, balloc (Below.refl _ _) _⟩
    exact ret_bool (by rw [Bool.eq_iff_iff]; simp [ruleE]; omega)

/-- the rules in memory -/
def entRules : Array Value := #[.int .i64 1, .func (.func 103) #[] #[], .int .i64 2, .func (.func 104) #[] #[], .int .i64 3, .func (.func 106) #[] #[], .int .i64 4, .func (.func 107) #[] #[], .int .i64 5, .func (.func 108) #[] #[], .int .i64 6, .func (.func 109) #[] #[]]
theorem entRules_any (w : World) :
    Calls Tryd.prog 85 #[] w fun e w' => e = .returned (.slice (some ⟨w.heap.size, 0, none⟩) 6 6) ∧ w' = w.alloc (.cells entRules 140) := by
  go_enter Tryd.func85, Tryd.ntmps85
  go_wp2
  go_ret
  exact ⟨rfl, rfl⟩

set_option maxHeartbeats 4000000 in
theorem why_any (f t : Int) (a m x k : Nat) (w : World) (ha : a < 4294967296) (hm : m < 4294967296) (hx : x < 4294967296) (hk : k < 4294967296) :
    Calls Tryd.prog 76 #[.agg #[.int .i64 f, .int .i64 t, .int .u32 a, .int .u32 m, .int .u32 x, .int .u32 k]] w fun e w' => e = .returned (.int .i64 (whyF f a m x k)) ∧ Below w.heap.size w w' := by
  go_enter Tryd.func76, Tryd.ntmps76
  go_wp2_with fail
  refine (entRules_any _).mono ?_
  rintro e w1 ⟨rfl, rfl⟩
  obtain ⟨w0, hw0⟩ : ∃ w0, w0 = (w.alloc (.cells #[.int .i64 f, .int .i64 t, .int .u32 a, .int .u32 m, .int .u32 x, .int .u32 k] 98)).alloc (.cells entRules 140) := ⟨_, rfl⟩
  have hB0 : Below w.heap.size w w0 := by rw [hw0]; exact balloc (balloc (Below.refl _ _) _) _
  have hK0 : Blk w0 w.heap.size 98 #[.int .i64 f, .int .i64 t, .int .u32 a, .int .u32 m, .int .u32 x, .int .u32 k] := by rw [hw0]; exact (Blk.new _ _ _).alloc _
  have hR0 : Blk w0 (w.heap.size + 1) 140 entRules := by
    rw [hw0]
    have := Blk.new (w.alloc (.cells #[.int .i64 f, .int .i64 t, .int .u32 a, .int .u32 m, .int .u32 x, .int .u32 k] 98)) 140 entRules
    simpa using this
  rw [← hw0]
  simp only [World.size_alloc]
  clear hw0
  go_wp2_with fail
  go_loopw [7] (fun i wr => ∃ j : Nat, j ≤ 6 ∧ i = .int .i64 j ∧ Below w0.heap.size w0 wr ∧ fromE (6 - j) j f a m x k = whyF f a m x k) (fun i _ => 6 - (intOf i).toNat)
  case atStart => exact ⟨0, by omega, rfl, Below.refl _ _, rfl⟩
  case round =>
    obtain ⟨j, hj, rfl, hb, hf⟩ := hrel
    have HF := Lib.hid hf
    clear hf
    have hK := hK0.below hb hK0.lt
    have hR := hR0.below hb hR0.lt
    have e0 := hK.cell 0
    have e1 := hK.cell 1
    have e2 := hK.cell 2
    have e3 := hK.cell 3
    have e4 := hK.cell 4
    have e5 := hK.cell 5
    simp at e0 e1 e2 e3 e4 e5
    have hc := fun i => hR.cell i
    have HC := Lib.hid hc
    have hB := bnext hB0 hb
    have hwz : w.heap.size < wr.heap.size := hK.lt
    clear hc hR hK
    rcases (by omega : j = 0 ∨ j = 1 ∨ j = 2 ∨ j = 3 ∨ j = 4 ∨ j = 5 ∨ j = 6) with rfl | rfl | rfl | rfl | rfl | rfl | rfl
    · have a0 := HC.out 0
      have a1 := HC.out 1
      simp [entRules] at a0 a1
      cases hr : ruleE 0 f a m x k
      · have c1 := ruleE0 f t a m x k (wr.alloc (.cells #[.int .i64 1, .func (.func 103) #[] #[]] 140)) ha hm hx hk
        have hrT := Lib.hid hr
        rw [hr] at c1
        have C1 := Lib.hid c1
        clear c1 hr
        go_wp2_with fail
        refine C1.out.mono ?_
        rintro e w2 ⟨rfl, hb2⟩
        have hbx : w2.cell? ⟨wr.heap.size, 0, none⟩ = some (.int .i64 1) := (hb2.cell (p := ⟨wr.heap.size, 0, none⟩) (by simp)).trans (by simp)
        have hbw : Below wr.heap.size wr w2 := ((Below.refl _ _).alloc (Nat.le_refl _) _).trans (hb2.mono (by simp))
        clear hb2 C1
        go_wp2_with fail
        go_roundw
        case rel => exact ⟨1, by omega, rfl, bnext hb hbw, by simp [whyF, fromE, hrT.out]⟩
        case measure => simp [intOf]
      · have c1 := ruleE0 f t a m x k (wr.alloc (.cells #[.int .i64 1, .func (.func 103) #[] #[]] 140)) ha hm hx hk
        have hrT := Lib.hid hr
        rw [hr] at c1
        have C1 := Lib.hid c1
        clear c1 hr
        go_wp2_with fail
        refine C1.out.mono ?_
        rintro e w2 ⟨rfl, hb2⟩
        have hbx : w2.cell? ⟨wr.heap.size, 0, none⟩ = some (.int .i64 1) := (hb2.cell (p := ⟨wr.heap.size, 0, none⟩) (by simp)).trans (by simp)
        have hbw : Below wr.heap.size wr w2 := ((Below.refl _ _).alloc (Nat.le_refl _) _).trans (hb2.mono (by simp))
        clear hb2 C1
        go_wp2_with fail
        go_ret
        
        exact ⟨by simp [whyF, fromE, hrT.out], bnext hB hbw⟩
    · have a0 := HC.out 2
      have a1 := HC.out 3
      simp [entRules] at a0 a1
      cases hr : ruleE 1 f a m x k
      · have c1 := ruleE1 f t a m x k (wr.alloc (.cells #[.int .i64 2, .func (.func 104) #[] #[]] 140)) ha hm hx hk
        have hrT := Lib.hid hr
        rw [hr] at c1
        have C1 := Lib.hid c1
        clear c1 hr
        go_wp2_with fail
        refine C1.out.mono ?_
        rintro e w2 ⟨rfl, hb2⟩
        have hbx : w2.cell? ⟨wr.heap.size, 0, none⟩ = some (.int .i64 2) := (hb2.cell (p := ⟨wr.heap.size, 0, none⟩) (by simp)).trans (by simp)
        have hbw : Below wr.heap.size wr w2 := ((Below.refl _ _).alloc (Nat.le_refl _) _).trans (hb2.mono (by simp))
        clear hb2 C1
        go_wp2_with fail
        go_roundw
        case rel => exact ⟨2, by omega, rfl, bnext hb hbw, by rw [← HF.out]; simp [fromE, hrT.out]⟩
        case measure => simp [intOf]
      · have c1 := ruleE1 f t a m x k (wr.alloc (.cells #[.int .i64 2, .func (.func 104) #[] #[]] 140)) ha hm hx hk
        have hrT := Lib.hid hr
        rw [hr] at c1
        have C1 := Lib.hid c1
        clear c1 hr
        go_wp2_with fail
        refine C1.out.mono ?_
        rintro e w2 ⟨rfl, hb2⟩
        have hbx : w2.cell? ⟨wr.heap.size, 0, none⟩ = some (.int .i64 2) := (hb2.cell (p := ⟨wr.heap.size, 0, none⟩) (by simp)).trans (by simp)
        have hbw : Below wr.heap.size wr w2 := ((Below.refl _ _).alloc (Nat.le_refl _) _).trans (hb2.mono (by simp))
        clear hb2 C1
        go_wp2_with fail
        go_ret
        rw [← HF.out]
        exact ⟨by simp [fromE, hrT.out], bnext hB hbw⟩
    · have a0 := HC.out 4
      have a1 := HC.out 5
      simp [entRules] at a0 a1
      cases hr : ruleE 2 f a m x k
      · have c1 := ruleE2 f t a m x k (wr.alloc (.cells #[.int .i64 3, .func (.func 106) #[] #[]] 140)) ha hm hx hk
        have hrT := Lib.hid hr
        rw [hr] at c1
        have C1 := Lib.hid c1
        clear c1 hr
        go_wp2_with fail
        refine C1.out.mono ?_
        rintro e w2 ⟨rfl, hb2⟩
        have hbx : w2.cell? ⟨wr.heap.size, 0, none⟩ = some (.int .i64 3) := (hb2.cell (p := ⟨wr.heap.size, 0, none⟩) (by simp)).trans (by simp)
        have hbw : Below wr.heap.size wr w2 := ((Below.refl _ _).alloc (Nat.le_refl _) _).trans (hb2.mono (by simp))
        clear hb2 C1
        go_wp2_with fail
        go_roundw
        case rel => exact ⟨3, by omega, rfl, bnext hb hbw, by rw [← HF.out]; simp [fromE, hrT.out]⟩
        case measure => simp [intOf]
      · have c1 := ruleE2 f t a m x k (wr.alloc (.cells #[.int .i64 3, .func (.func 106) #[] #[]] 140)) ha hm hx hk
        have hrT := Lib.hid hr
        rw [hr] at c1
        have C1 := Lib.hid c1
        clear c1 hr
        go_wp2_with fail
        refine C1.out.mono ?_
        rintro e w2 ⟨rfl, hb2⟩
        have hbx : w2.cell? ⟨wr.heap.size, 0, none⟩ = some (.int .i64 3) := (hb2.cell (p := ⟨wr.heap.size, 0, none⟩) (by simp)).trans (by simp)
        have hbw : Below wr.heap.size wr w2 := ((Below.refl _ _).alloc (Nat.le_refl _) _).trans (hb2.mono (by simp))
        clear hb2 C1
        go_wp2_with fail
        go_ret
        rw [← HF.out]
        exact ⟨by simp [fromE, hrT.out], bnext hB hbw⟩
    · have a0 := HC.out 6
      have a1 := HC.out 7
      simp [entRules] at a0 a1
      cases hr : ruleE 3 f a m x k
      · have c1 := ruleE3 f t a m x k (wr.alloc (.cells #[.int .i64 4, .func (.func 107) #[] #[]] 140)) ha hm hx hk
        have hrT := Lib.hid hr
        rw [hr] at c1
        have C1 := Lib.hid c1
        clear c1 hr
        go_wp2_with fail
        refine C1.out.mono ?_
        rintro e w2 ⟨rfl, hb2⟩
        have hbx : w2.cell? ⟨wr.heap.size, 0, none⟩ = some (.int .i64 4) := (hb2.cell (p := ⟨wr.heap.size, 0, none⟩) (by simp)).trans (by simp)
        have hbw : Below wr.heap.size wr w2 := ((Below.refl _ _).alloc (Nat.le_refl _) _).trans (hb2.mono (by simp))
        clear hb2 C1
        go_wp2_with fail
        go_roundw
        case rel => exact ⟨4, by omega, rfl, bnext hb hbw, by rw [← HF.out]; simp [fromE, hrT.out]⟩
        case measure => simp [intOf]
      · have c1 := ruleE3 f t a m x k (wr.alloc (.cells #[.int .i64 4, .func (.func 107) #[] #[]] 140)) ha hm hx hk
        have hrT := Lib.hid hr
        rw [hr] at c1
        have C1 := Lib.hid c1
        clear c1 hr
        go_wp2_with fail
        refine C1.out.mono ?_
        rintro e w2 ⟨rfl, hb2⟩
        have hbx : w2.cell? ⟨wr.heap.size, 0, none⟩ = some (.int .i64 4) := (hb2.cell (p := ⟨wr.heap.size, 0, none⟩) (by simp)).trans (by simp)
        have hbw : Below wr.heap.size wr w2 := ((Below.refl _ _).alloc (Nat.le_refl _) _).trans (hb2.mono (by simp))
        clear hb2 C1
        go_wp2_with fail
        go_ret
        rw [← HF.out]
        exact ⟨by simp [fromE, hrT.out], bnext hB hbw⟩
    · have a0 := HC.out 8
      have a1 := HC.out 9
      simp [entRules] at a0 a1
      cases hr : ruleE 4 f a m x k
      · have c1 := ruleE4 f t a m x k (wr.alloc (.cells #[.int .i64 5, .func (.func 108) #[] #[]] 140)) ha hm hx hk
        have hrT := Lib.hid hr
        rw [hr] at c1
        have C1 := Lib.hid c1
        clear c1 hr
        go_wp2_with fail
        refine C1.out.mono ?_
        rintro e w2 ⟨rfl, hb2⟩
        have hbx : w2.cell? ⟨wr.heap.size, 0, none⟩ = some (.int .i64 5) := (hb2.cell (p := ⟨wr.heap.size, 0, none⟩) (by simp)).trans (by simp)
        have hbw : Below wr.heap.size wr w2 := ((Below.refl _ _).alloc (Nat.le_refl _) _).trans (hb2.mono (by simp))
        clear hb2 C1
        go_wp2_with fail
        go_roundw
        case rel => exact ⟨5, by omega, rfl, bnext hb hbw, by rw [← HF.out]; simp [fromE, hrT.out]⟩
        case measure => simp [intOf]
      · have c1 := ruleE4 f t a m x k (wr.alloc (.cells #[.int .i64 5, .func (.func 108) #[] #[]] 140)) ha hm hx hk
        have hrT := Lib.hid hr
        rw [hr] at c1
        have C1 := Lib.hid c1
        clear c1 hr
        go_wp2_with fail
        refine C1.out.mono ?_
        rintro e w2 ⟨rfl, hb2⟩
        have hbx : w2.cell? ⟨wr.heap.size, 0, none⟩ = some (.int .i64 5) := (hb2.cell (p := ⟨wr.heap.size, 0, none⟩) (by simp)).trans (by simp)
        have hbw : Below wr.heap.size wr w2 := ((Below.refl _ _).alloc (Nat.le_refl _) _).trans (hb2.mono (by simp))
        clear hb2 C1
        go_wp2_with fail
        go_ret
        rw [← HF.out]
        exact ⟨by simp [fromE, hrT.out], bnext hB hbw⟩
    · have a0 := HC.out 10
      have a1 := HC.out 11
      simp [entRules] at a0 a1
      cases hr : ruleE 5 f a m x k
      · have c1 := ruleE5 f t a m x k (wr.alloc (.cells #[.int .i64 6, .func (.func 109) #[] #[]] 140)) ha hm hx hk
        have hrT := Lib.hid hr
        rw [hr] at c1
        have C1 := Lib.hid c1
        clear c1 hr
        go_wp2_with fail
        refine C1.out.mono ?_
        rintro e w2 ⟨rfl, hb2⟩
        have hbx : w2.cell? ⟨wr.heap.size, 0, none⟩ = some (.int .i64 6) := (hb2.cell (p := ⟨wr.heap.size, 0, none⟩) (by simp)).trans (by simp)
        have hbw : Below wr.heap.size wr w2 := ((Below.refl _ _).alloc (Nat.le_refl _) _).trans (hb2.mono (by simp))
        clear hb2 C1
        go_wp2_with fail
        go_roundw
        case rel => exact ⟨6, by omega, rfl, bnext hb hbw, by rw [← HF.out]; simp [fromE, hrT.out]⟩
        case measure => simp [intOf]
      · have c1 := ruleE5 f t a m x k (wr.alloc (.cells #[.int .i64 6, .func (.func 109) #[] #[]] 140)) ha hm hx hk
        have hrT := Lib.hid hr
        rw [hr] at c1
        have C1 := Lib.hid c1
        clear c1 hr
        go_wp2_with fail
        refine C1.out.mono ?_
        rintro e w2 ⟨rfl, hb2⟩
        have hbx : w2.cell? ⟨wr.heap.size, 0, none⟩ = some (.int .i64 6) := (hb2.cell (p := ⟨wr.heap.size, 0, none⟩) (by simp)).trans (by simp)
        have hbw : Below wr.heap.size wr w2 := ((Below.refl _ _).alloc (Nat.le_refl _) _).trans (hb2.mono (by simp))
        clear hb2 C1
        go_wp2_with fail
        go_ret
        rw [← HF.out]
        exact ⟨by simp [fromE, hrT.out], bnext hB hbw⟩
    · go_wp2_with fail
      go_ret
      rw [← HF.out]
      exact ⟨by simp [fromE], hB⟩
end Go.Proofs.YtgjeejdebneoaaaDoor
