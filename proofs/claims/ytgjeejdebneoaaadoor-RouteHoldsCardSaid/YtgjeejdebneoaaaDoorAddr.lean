/- addr.Kind and the reference's: what each answers. -/
import Derived.Test.YtgjeejdebneoaaaDoorRows
import Derived.Test.YtgjeejdebneoaaaDoorBase2
import Derived.Laws.EntriesVeiled
namespace Go.Proofs.YtgjeejdebneoaaaDoor
set_option linter.unusedVariables false
set_option linter.unusedSimpArgs false
open Go.RowKit
set_option maxRecDepth 100000

/-- the kind of an address, by its highest byte -/
def kindF (a : Nat) : Nat :=
  if a = 0 then 1 else if a / 16777216 = 0 then 2 else if a / 16777216 = 127 then 3 else if 224 ≤ a / 16777216 ∧ a / 16777216 ≤ 239 then 4 else if 240 ≤ a / 16777216 then 5 else 6

/-- the block in which Parts lays its answer -/
def partsO (a : Nat) : Obj := .cells #[.int .u8 ((a : Int) / 16777216), .int .u8 ((a : Int) / 65536 % 256), .int .u8 ((a : Int) / 256 % 256), .int .u8 ((a : Int) % 256)] 144

set_option maxHeartbeats 1000000 in
theorem parts_any (a : Nat) (w : World) (ha : a < 4294967296) :
    Calls Tryd.prog 96 #[.int .u32 a] w fun e w' => e = .returned (.agg #[.int .u8 ((a : Int) / 16777216), .int .u8 ((a : Int) / 65536 % 256), .int .u8 ((a : Int) / 256 % 256), .int .u8 ((a : Int) % 256)]) ∧ w' = w.alloc (partsO a) := by
  go_enter Tryd.func96, Tryd.ntmps96
  go_wp2
  go_returns
  exact ⟨rfl, rfl⟩

theorem first_any (a : Nat) (w : World) (ha : a < 4294967296) :
    Calls Tryd.prog 95 #[.int .u32 a] w fun e w' => e = .returned (.int .u8 ((a : Int) / 16777216)) ∧ w' = w.alloc (partsO a) := by
  have i0 : ∀ (w : World) (x0 x1 x2 x3 : Value), (Instr.index 144 (.agg #[x0, x1, x2, x3]) (.int .i64 0)).run Tryd.prog w = .ok x0 w := fun _ _ _ _ _ => by kernel_rfl
  go_enter Tryd.func95, Tryd.ntmps95
  go_wp2_with (go_at_call 96; refine (parts_any a _ ha).mono ?_; rintro e w' ⟨rfl, rfl⟩)
  go_ret
  exact ⟨rfl, rfl⟩

theorem rule2_any (a : Nat) (w : World) :
    Calls Tryd.prog 97 #[.int .u32 a] w fun e w' => e = .returned (.bool ((a : Int) == 0)) ∧ w = w' := by
  go_enter Tryd.func97, Tryd.ntmps97
  go_wp2
  go_ret
  exact ⟨rfl, rfl⟩
theorem rule3_any (a : Nat) (g : Addr) (w : World) (ha : a < 4294967296) (hg : w.cell? g = some (.func (.func 95) #[] #[])) :
    Calls Tryd.prog 98 #[.int .u32 a, .pointer (some g)] w fun e w' => e = .returned (.bool ((a : Int) / 16777216 == 0)) ∧ w' = w.alloc (partsO a) := by
  go_enter Tryd.func98, Tryd.ntmps98
  go_wp2_with (go_at_call 95; refine (first_any a _ ha).mono ?_; rintro e w' ⟨rfl, rfl⟩)
  go_ret
  exact ⟨rfl, rfl⟩
theorem rule4_any (a : Nat) (g : Addr) (w : World) (ha : a < 4294967296) (hg : w.cell? g = some (.func (.func 95) #[] #[])) :
    Calls Tryd.prog 99 #[.int .u32 a, .pointer (some g)] w fun e w' => e = .returned (.bool ((a : Int) / 16777216 == 127)) ∧ w' = w.alloc (partsO a) := by
  go_enter Tryd.func99, Tryd.ntmps99
  go_wp2_with (go_at_call 95; refine (first_any a _ ha).mono ?_; rintro e w' ⟨rfl, rfl⟩)
  go_ret
  exact ⟨rfl, rfl⟩
theorem rule5_any (a : Nat) (g : Addr) (w : World) (ha : a < 4294967296) (hg : w.cell? g = some (.func (.func 95) #[] #[])) :
    Calls Tryd.prog 100 #[.int .u32 a, .pointer (some g)] w fun e w' => e = .returned (.bool (decide (224 ≤ a / 16777216 ∧ a / 16777216 ≤ 239))) ∧ Below w.heap.size w w' := by
  have hg2 : (w.alloc (partsO a)).cell? g = some (.func (.func 95) #[] #[]) := by rw [World.cell?_alloc_lt _ _ _ (cell_lt hg)]; exact hg
  by_cases h : 224 ≤ (a : Int) / 16777216
  · go_enter Tryd.func100, Tryd.ntmps100
    go_wp2_with (go_at_call 95; refine (first_any a _ ha).mono ?_; rintro e w' ⟨rfl, rfl⟩)
    go_ret
    refine ⟨?_, ((Below.refl _ _).alloc (Nat.le_refl _) _).alloc (by simp) _⟩
    have : 224 ≤ a / 16777216 := by omega
    simp [this]
    omega
  · go_enter Tryd.func100, Tryd.ntmps100
    go_wp2_with (go_at_call 95; refine (first_any a _ ha).mono ?_; rintro e w' ⟨rfl, rfl⟩)
    go_ret
    refine ⟨?_, (Below.refl _ _).alloc (Nat.le_refl _) _⟩
    have : ¬ 224 ≤ a / 16777216 := by omega
    simp [this]
theorem rule6_any (a : Nat) (g : Addr) (w : World) (ha : a < 4294967296) (hg : w.cell? g = some (.func (.func 95) #[] #[])) :
    Calls Tryd.prog 101 #[.int .u32 a, .pointer (some g)] w fun e w' => e = .returned (.bool (decide (240 ≤ (a : Int) / 16777216))) ∧ w' = w.alloc (partsO a) := by
  go_enter Tryd.func101, Tryd.ntmps101
  go_wp2_with (go_at_call 95; refine (first_any a _ ha).mono ?_; rintro e w' ⟨rfl, rfl⟩)
  go_ret
  exact ⟨rfl, rfl⟩
theorem rule7_any (a : Nat) (w : World) :
    Calls Tryd.prog 102 #[.int .u32 a] w fun e w' => e = .returned (.bool true) ∧ w = w' := by
  go_enter Tryd.func102, Tryd.ntmps102
  go_wp2
  go_ret
  exact ⟨rfl, rfl⟩

/-- the rules in memory -/
def rulesO (g : Nat) : Obj := .cells #[.int .i64 1, .func (.func 97) #[] #[], .int .i64 2, .func (.func 98) #[] #[.pointer (some ⟨g, 0, none⟩)], .int .i64 3, .func (.func 99) #[] #[.pointer (some ⟨g, 0, none⟩)], .int .i64 4, .func (.func 100) #[] #[.pointer (some ⟨g, 0, none⟩)], .int .i64 5, .func (.func 101) #[] #[.pointer (some ⟨g, 0, none⟩)], .int .i64 6, .func (.func 102) #[] #[]] 134
theorem kindRules_any (w : World) :
    Calls Tryd.prog 82 #[] w fun e w' => e = .returned (.slice (some ⟨w.heap.size + 1, 0, none⟩) 6 6) ∧ w' = (w.alloc (.cells #[.func (.func 95) #[] #[]] 146)).alloc (rulesO w.heap.size) := by
  go_enter Tryd.func82, Tryd.ntmps82
  go_wp2
  go_ret
  exact ⟨rfl, rfl⟩

theorem kindRules_gives (w : World) :
    Calls Tryd.prog 82 #[] w fun e w' => ∃ g, e = .returned (.slice (some ⟨g + 1, 0, none⟩) 6 6) ∧ Below w.heap.size w w' ∧ g + 1 < w'.heap.size ∧ w'.cell? ⟨g, 0, none⟩ = some (.func (.func 95) #[] #[]) ∧ w'.heap[g + 1]? = some (rulesO g) := by
  refine (kindRules_any w).mono ?_
  rintro e w' ⟨rfl, rfl⟩
  refine ⟨w.heap.size, rfl, ((Below.refl _ _).alloc (Nat.le_refl _) _).alloc (by simp) _, by simp, by simp, ?_⟩
  have := heap_alloc_new (w.alloc (.cells #[.func (.func 95) #[] #[]] 146)) (rulesO w.heap.size)
  simpa using this

/-- the same facts, in a later world -/
def RulesIn (w : World) (g : Nat) : Prop := g + 1 < w.heap.size ∧ w.cell? ⟨g, 0, none⟩ = some (.func (.func 95) #[] #[]) ∧ w.heap[g + 1]? = some (rulesO g)
theorem RulesIn.below {w w' : World} {g : Nat} (h : RulesIn w g) (hb : Below w.heap.size w w') : RulesIn w' g :=
  ⟨Nat.lt_of_lt_of_le h.1 hb.size, (hb.cell (p := ⟨g, 0, none⟩) (by have := h.1; simp; omega)).trans h.2.1, (hb.block _ h.1).trans h.2.2⟩
theorem RulesIn.cells {w : World} {g : Nat} (h : RulesIn w g) :
    (w.cell? ⟨g + 1, 0, none⟩ = some (.int .i64 1) ∧ w.cell? ⟨g + 1, 1, none⟩ = some (.func (.func 97) #[] #[])) ∧
    (w.cell? ⟨g + 1, 2, none⟩ = some (.int .i64 2) ∧ w.cell? ⟨g + 1, 3, none⟩ = some (.func (.func 98) #[] #[.pointer (some ⟨g, 0, none⟩)])) ∧
    (w.cell? ⟨g + 1, 4, none⟩ = some (.int .i64 3) ∧ w.cell? ⟨g + 1, 5, none⟩ = some (.func (.func 99) #[] #[.pointer (some ⟨g, 0, none⟩)])) ∧
    (w.cell? ⟨g + 1, 6, none⟩ = some (.int .i64 4) ∧ w.cell? ⟨g + 1, 7, none⟩ = some (.func (.func 100) #[] #[.pointer (some ⟨g, 0, none⟩)])) ∧
    (w.cell? ⟨g + 1, 8, none⟩ = some (.int .i64 5) ∧ w.cell? ⟨g + 1, 9, none⟩ = some (.func (.func 101) #[] #[.pointer (some ⟨g, 0, none⟩)])) ∧
    (w.cell? ⟨g + 1, 10, none⟩ = some (.int .i64 6) ∧ w.cell? ⟨g + 1, 11, none⟩ = some (.func (.func 102) #[] #[])) := by
  have hc := fun i => cell_of_row w (g + 1) i _ _ _ h.2.2
  simp [hc]

/-- what one rule says -/
def ruleB (k a : Nat) : Bool := match k with
  | 0 => decide (a = 0) | 1 => decide (a / 16777216 = 0) | 2 => decide (a / 16777216 = 127) | 3 => decide (224 ≤ a / 16777216 ∧ a / 16777216 ≤ 239) | 4 => decide (240 ≤ a / 16777216) | _ => true

theorem ruleN0 (a : Nat) (w : World) (ha : a < 4294967296) : Calls Tryd.prog 97 #[.int .u32 a] w fun e w' => e = .returned (.bool (ruleB 0 a)) ∧ Below w.heap.size w w' := by
  refine (rule2_any a w).mono ?_
  rintro e w' ⟨rfl, rfl⟩
  exact ⟨by congr 2; rw [Bool.eq_iff_iff]; simp [ruleB], Below.refl _ _⟩
theorem ruleN1 (a : Nat) (w : World) (ha : a < 4294967296) (g : Addr) (hg : w.cell? g = some (.func (.func 95) #[] #[])) : Calls Tryd.prog 98 #[.int .u32 a, .pointer (some g)] w fun e w' => e = .returned (.bool (ruleB 1 a)) ∧ Below w.heap.size w w' := by
  refine (rule3_any a g w ha hg).mono ?_
  rintro e w' ⟨rfl, rfl⟩
  exact ⟨by congr 2; rw [Bool.eq_iff_iff]; simp [ruleB]; omega, (Below.refl _ _).alloc (Nat.le_refl _) _⟩
theorem ruleN2 (a : Nat) (w : World) (ha : a < 4294967296) (g : Addr) (hg : w.cell? g = some (.func (.func 95) #[] #[])) : Calls Tryd.prog 99 #[.int .u32 a, .pointer (some g)] w fun e w' => e = .returned (.bool (ruleB 2 a)) ∧ Below w.heap.size w w' := by
  refine (rule4_any a g w ha hg).mono ?_
  rintro e w' ⟨rfl, rfl⟩
  exact ⟨by congr 2; rw [Bool.eq_iff_iff]; simp [ruleB]; omega, (Below.refl _ _).alloc (Nat.le_refl _) _⟩
theorem ruleN3 (a : Nat) (w : World) (ha : a < 4294967296) (g : Addr) (hg : w.cell? g = some (.func (.func 95) #[] #[])) : Calls Tryd.prog 100 #[.int .u32 a, .pointer (some g)] w fun e w' => e = .returned (.bool (ruleB 3 a)) ∧ Below w.heap.size w w' := rule5_any a g w ha hg
theorem ruleN4 (a : Nat) (w : World) (ha : a < 4294967296) (g : Addr) (hg : w.cell? g = some (.func (.func 95) #[] #[])) : Calls Tryd.prog 101 #[.int .u32 a, .pointer (some g)] w fun e w' => e = .returned (.bool (ruleB 4 a)) ∧ Below w.heap.size w w' := by
  refine (rule6_any a g w ha hg).mono ?_
  rintro e w' ⟨rfl, rfl⟩
  exact ⟨by congr 2; rw [Bool.eq_iff_iff]; simp [ruleB]; omega, (Below.refl _ _).alloc (Nat.le_refl _) _⟩
theorem ruleN5 (a : Nat) (w : World) (ha : a < 4294967296) : Calls Tryd.prog 102 #[.int .u32 a] w fun e w' => e = .returned (.bool (ruleB 5 a)) ∧ Below w.heap.size w w' := by
  refine (rule7_any a w).mono ?_
  rintro e w' ⟨rfl, rfl⟩
  exact ⟨rfl, Below.refl _ _⟩
/-- the first rule from k on that is so -/
def fromR : Nat → Nat → Nat → Nat
  | 0, _, _ => 0
  | f + 1, k, a => if ruleB k a then k + 1 else fromR f (k + 1) a
theorem fromR_kind (a : Nat) : fromR 6 0 a = kindF a := by
  unfold kindF
  simp only [fromR, ruleB]
  simp only [decide_eq_true_eq]
  rfl

set_option maxHeartbeats 4000000 in
theorem kind_any (a : Nat) (w : World) (ha : a < 4294967296) :
    Calls Tryd.prog 73 #[.int .u32 a] w fun e w' => e = .returned (.int .i64 (kindF a)) ∧ Below w.heap.size w w' := by
  rw [← fromR_kind]
  go_enter Tryd.func73, Tryd.ntmps73
  go_wp2_with fail
  refine (kindRules_gives w).mono ?_
  rintro e w1 ⟨g, rfl, hb1, hR⟩
  replace hR : RulesIn w1 g := hR
  have HR := Lib.hid hR
  clear hR
  go_wp2_with fail
  go_loopw [7] (fun i wr => ∃ k : Nat, k < 6 ∧ i = .int .i64 k ∧ RulesIn wr g ∧ Below w.heap.size w wr ∧ fromR (6 - k) k a = fromR 6 0 a) (fun i _ => 6 - (intOf i).toNat)
  case atStart => exact ⟨0, by omega, rfl, HR.out, hb1, rfl⟩
  case round =>
    obtain ⟨k, hk, rfl, hR, hb, hf⟩ := hrel
    have HF : Hid (fromR (6 - k) k a = fromR 6 0 a) := Lib.hid hf
    clear hf
    obtain ⟨⟨a0, f0⟩, ⟨a1, f1⟩, ⟨a2, f2⟩, ⟨a3, f3⟩, ⟨a4, f4⟩, ⟨a5, f5⟩⟩ := hR.cells
    have hg0 := hR.2.1
    have HR2 := Lib.hid hR
    clear hR HR
    rcases (by omega : k = 0 ∨ k = 1 ∨ k = 2 ∨ k = 3 ∨ k = 4 ∨ k = 5) with rfl | rfl | rfl | rfl | rfl | rfl
    · clear a1 f1 a2 f2 a3 f3 a4 f4 a5 f5
      cases hr : ruleB 0 a
      · have c1 := ruleN0 a (wr.alloc (.cells #[.int .i64 1, .func (.func 97) #[] #[]] 134)) ha
        have hrT := Lib.hid hr
        rw [hr] at c1
        have C1 := Lib.hid c1
        clear c1 hr
        go_wp2_with fail
        refine C1.out.mono ?_
        rintro e w2 ⟨rfl, hb2⟩
        have hbx : w2.cell? ⟨wr.heap.size, 0, none⟩ = some (.int .i64 1) := (hb2.cell (p := ⟨wr.heap.size, 0, none⟩) (by simp)).trans (by simp)
        have hbw : Below wr.heap.size wr w2 := ((Below.refl _ _).alloc (Nat.le_refl _) _).trans (hb2.mono (by simp))
        clear hb2 C1
        go_wp2_with fail
        go_roundw
        case rel => exact ⟨1, by omega, rfl, HR2.out.below hbw, bnext hb hbw, by simp [fromR, hrT.out]⟩
        case measure => simp [intOf]
      · have c1 := ruleN0 a (wr.alloc (.cells #[.int .i64 1, .func (.func 97) #[] #[]] 134)) ha
        have hrT := Lib.hid hr
        rw [hr] at c1
        have C1 := Lib.hid c1
        clear c1 hr
        go_wp2_with fail
        refine C1.out.mono ?_
        rintro e w2 ⟨rfl, hb2⟩
        have hbx : w2.cell? ⟨wr.heap.size, 0, none⟩ = some (.int .i64 1) := (hb2.cell (p := ⟨wr.heap.size, 0, none⟩) (by simp)).trans (by simp)
        have hbw : Below wr.heap.size wr w2 := ((Below.refl _ _).alloc (Nat.le_refl _) _).trans (hb2.mono (by simp))
        clear hb2 C1
        go_wp2_with fail
        go_ret
        exact ⟨by simp [fromR, hrT.out], bnext hb hbw⟩
    · clear a0 f0 a2 f2 a3 f3 a4 f4 a5 f5
      cases hr : ruleB 1 a
      · have c1 := ruleN1 a (wr.alloc (.cells #[.int .i64 2, .func (.func 98) #[] #[.pointer (some ⟨g, 0, none⟩)]] 134)) ha ⟨g, 0, none⟩ (by rw [World.cell?_alloc_lt _ _ _ (cell_lt hg0)]; exact hg0)
        have hrT := Lib.hid hr
        rw [hr] at c1
        have C1 := Lib.hid c1
        clear c1 hr
        go_wp2_with fail
        refine C1.out.mono ?_
        rintro e w2 ⟨rfl, hb2⟩
        have hbx : w2.cell? ⟨wr.heap.size, 0, none⟩ = some (.int .i64 2) := (hb2.cell (p := ⟨wr.heap.size, 0, none⟩) (by simp)).trans (by simp)
        have hbw : Below wr.heap.size wr w2 := ((Below.refl _ _).alloc (Nat.le_refl _) _).trans (hb2.mono (by simp))
        clear hb2 C1
        go_wp2_with fail
        go_roundw
        case rel => exact ⟨2, by omega, rfl, HR2.out.below hbw, bnext hb hbw, by rw [← HF.out]; simp [fromR, hrT.out]⟩
        case measure => simp [intOf]
      · have c1 := ruleN1 a (wr.alloc (.cells #[.int .i64 2, .func (.func 98) #[] #[.pointer (some ⟨g, 0, none⟩)]] 134)) ha ⟨g, 0, none⟩ (by rw [World.cell?_alloc_lt _ _ _ (cell_lt hg0)]; exact hg0)
        have hrT := Lib.hid hr
        rw [hr] at c1
        have C1 := Lib.hid c1
        clear c1 hr
        go_wp2_with fail
        refine C1.out.mono ?_
        rintro e w2 ⟨rfl, hb2⟩
        have hbx : w2.cell? ⟨wr.heap.size, 0, none⟩ = some (.int .i64 2) := (hb2.cell (p := ⟨wr.heap.size, 0, none⟩) (by simp)).trans (by simp)
        have hbw : Below wr.heap.size wr w2 := ((Below.refl _ _).alloc (Nat.le_refl _) _).trans (hb2.mono (by simp))
        clear hb2 C1
        go_wp2_with fail
        go_ret
        rw [← HF.out]
        exact ⟨by simp [fromR, hrT.out], bnext hb hbw⟩
    · clear a0 f0 a1 f1 a3 f3 a4 f4 a5 f5
      cases hr : ruleB 2 a
      · have c1 := ruleN2 a (wr.alloc (.cells #[.int .i64 3, .func (.func 99) #[] #[.pointer (some ⟨g, 0, none⟩)]] 134)) ha ⟨g, 0, none⟩ (by rw [World.cell?_alloc_lt _ _ _ (cell_lt hg0)]; exact hg0)
        have hrT := Lib.hid hr
        rw [hr] at c1
        have C1 := Lib.hid c1
        clear c1 hr
        go_wp2_with fail
        refine C1.out.mono ?_
        rintro e w2 ⟨rfl, hb2⟩
        have hbx : w2.cell? ⟨wr.heap.size, 0, none⟩ = some (.int .i64 3) := (hb2.cell (p := ⟨wr.heap.size, 0, none⟩) (by simp)).trans (by simp)
        have hbw : Below wr.heap.size wr w2 := ((Below.refl _ _).alloc (Nat.le_refl _) _).trans (hb2.mono (by simp))
        clear hb2 C1
        go_wp2_with fail
        go_roundw
        case rel => exact ⟨3, by omega, rfl, HR2.out.below hbw, bnext hb hbw, by rw [← HF.out]; simp [fromR, hrT.out]⟩
        case measure => simp [intOf]
      · have c1 := ruleN2 a (wr.alloc (.cells #[.int .i64 3, .func (.func 99) #[] #[.pointer (some ⟨g, 0, none⟩)]] 134)) ha ⟨g, 0, none⟩ (by rw [World.cell?_alloc_lt _ _ _ (cell_lt hg0)]; exact hg0)
        have hrT := Lib.hid hr
        rw [hr] at c1
        have C1 := Lib.hid c1
        clear c1 hr
        go_wp2_with fail
        refine C1.out.mono ?_
        rintro e w2 ⟨rfl, hb2⟩
        have hbx : w2.cell? ⟨wr.heap.size, 0, none⟩ = some (.int .i64 3) := (hb2.cell (p := ⟨wr.heap.size, 0, none⟩) (by simp)).trans (by simp)
        have hbw : Below wr.heap.size wr w2 := ((Below.refl _ _).alloc (Nat.le_refl _) _).trans (hb2.mono (by simp))
        clear hb2 C1
        go_wp2_with fail
        go_ret
        rw [← HF.out]
        exact ⟨by simp [fromR, hrT.out], bnext hb hbw⟩
    · clear a0 f0 a1 f1 a2 f2 a4 f4 a5 f5
      cases hr : ruleB 3 a
      · have c1 := ruleN3 a (wr.alloc (.cells #[.int .i64 4, .func (.func 100) #[] #[.pointer (some ⟨g, 0, none⟩)]] 134)) ha ⟨g, 0, none⟩ (by rw [World.cell?_alloc_lt _ _ _ (cell_lt hg0)]; exact hg0)
        have hrT := Lib.hid hr
        rw [hr] at c1
        have C1 := Lib.hid c1
        clear c1 hr
        go_wp2_with fail
        refine C1.out.mono ?_
        rintro e w2 ⟨rfl, hb2⟩
        have hbx : w2.cell? ⟨wr.heap.size, 0, none⟩ = some (.int .i64 4) := (hb2.cell (p := ⟨wr.heap.size, 0, none⟩) (by simp)).trans (by simp)
        have hbw : Below wr.heap.size wr w2 := ((Below.refl _ _).alloc (Nat.le_refl _) _).trans (hb2.mono (by simp))
        clear hb2 C1
        go_wp2_with fail
        go_roundw
        case rel => exact ⟨4, by omega, rfl, HR2.out.below hbw, bnext hb hbw, by rw [← HF.out]; simp [fromR, hrT.out]⟩
        case measure => simp [intOf]
      · have c1 := ruleN3 a (wr.alloc (.cells #[.int .i64 4, .func (.func 100) #[] #[.pointer (some ⟨g, 0, none⟩)]] 134)) ha ⟨g, 0, none⟩ (by rw [World.cell?_alloc_lt _ _ _ (cell_lt hg0)]; exact hg0)
        have hrT := Lib.hid hr
        rw [hr] at c1
        have C1 := Lib.hid c1
        clear c1 hr
        go_wp2_with fail
        refine C1.out.mono ?_
        rintro e w2 ⟨rfl, hb2⟩
        have hbx : w2.cell? ⟨wr.heap.size, 0, none⟩ = some (.int .i64 4) := (hb2.cell (p := ⟨wr.heap.size, 0, none⟩) (by simp)).trans (by simp)
        have hbw : Below wr.heap.size wr w2 := ((Below.refl _ _).alloc (Nat.le_refl _) _).trans (hb2.mono (by simp))
        clear hb2 C1
        go_wp2_with fail
        go_ret
        rw [← HF.out]
        exact ⟨by simp [fromR, hrT.out], bnext hb hbw⟩
    · clear a0 f0 a1 f1 a2 f2 a3 f3 a5 f5
      cases hr : ruleB 4 a
      · have c1 := ruleN4 a (wr.alloc (.cells #[.int .i64 5, .func (.func 101) #[] #[.pointer (some ⟨g, 0, none⟩)]] 134)) ha ⟨g, 0, none⟩ (by rw [World.cell?_alloc_lt _ _ _ (cell_lt hg0)]; exact hg0)
        have hrT := Lib.hid hr
        rw [hr] at c1
        have C1 := Lib.hid c1
        clear c1 hr
        go_wp2_with fail
        refine C1.out.mono ?_
        rintro e w2 ⟨rfl, hb2⟩
        have hbx : w2.cell? ⟨wr.heap.size, 0, none⟩ = some (.int .i64 5) := (hb2.cell (p := ⟨wr.heap.size, 0, none⟩) (by simp)).trans (by simp)
        have hbw : Below wr.heap.size wr w2 := ((Below.refl _ _).alloc (Nat.le_refl _) _).trans (hb2.mono (by simp))
        clear hb2 C1
        go_wp2_with fail
        go_roundw
        case rel => exact ⟨5, by omega, rfl, HR2.out.below hbw, bnext hb hbw, by rw [← HF.out]; simp [fromR, hrT.out]⟩
        case measure => simp [intOf]
      · have c1 := ruleN4 a (wr.alloc (.cells #[.int .i64 5, .func (.func 101) #[] #[.pointer (some ⟨g, 0, none⟩)]] 134)) ha ⟨g, 0, none⟩ (by rw [World.cell?_alloc_lt _ _ _ (cell_lt hg0)]; exact hg0)
        have hrT := Lib.hid hr
        rw [hr] at c1
        have C1 := Lib.hid c1
        clear c1 hr
        go_wp2_with fail
        refine C1.out.mono ?_
        rintro e w2 ⟨rfl, hb2⟩
        have hbx : w2.cell? ⟨wr.heap.size, 0, none⟩ = some (.int .i64 5) := (hb2.cell (p := ⟨wr.heap.size, 0, none⟩) (by simp)).trans (by simp)
        have hbw : Below wr.heap.size wr w2 := ((Below.refl _ _).alloc (Nat.le_refl _) _).trans (hb2.mono (by simp))
        clear hb2 C1
        go_wp2_with fail
        go_ret
        rw [← HF.out]
        exact ⟨by simp [fromR, hrT.out], bnext hb hbw⟩
    · clear a0 f0 a1 f1 a2 f2 a3 f3 a4 f4
      cases hr : ruleB 5 a
      · simp [ruleB] at hr
      · have c1 := ruleN5 a (wr.alloc (.cells #[.int .i64 6, .func (.func 102) #[] #[]] 134)) ha
        have hrT := Lib.hid hr
        rw [hr] at c1
        have C1 := Lib.hid c1
        clear c1 hr
        go_wp2_with fail
        refine C1.out.mono ?_
        rintro e w2 ⟨rfl, hb2⟩
        have hbx : w2.cell? ⟨wr.heap.size, 0, none⟩ = some (.int .i64 6) := (hb2.cell (p := ⟨wr.heap.size, 0, none⟩) (by simp)).trans (by simp)
        have hbw : Below wr.heap.size wr w2 := ((Below.refl _ _).alloc (Nat.le_refl _) _).trans (hb2.mono (by simp))
        clear hb2 C1
        go_wp2_with fail
        go_ret
        rw [← HF.out]
        exact ⟨by simp [fromR, hrT.out], bnext hb hbw⟩
end Go.Proofs.YtgjeejdebneoaaaDoor
