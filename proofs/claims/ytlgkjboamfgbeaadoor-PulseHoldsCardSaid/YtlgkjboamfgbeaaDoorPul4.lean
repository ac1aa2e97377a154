/- pulse: change, tick. -/
import Derived.Test.YtlgkjboamfgbeaaDoorPul3
namespace Go.Proofs.YtlgkjboamfgbeaaDoor
set_option linter.unusedVariables false
set_option linter.unusedSimpArgs false
open Go.RowKit
set_option maxRecDepth 100000

/-- a pulse behind a change, and what is told -/
def chgF (q s : Int) (du un : Int) (wt : Bool) (nw dr : Int) : (Int × Int × Bool) × Int :=
  if un ≤ nw then ((du, nw + (q + max 0 (min dr s)), false), 1) else ((du, un, true), 0)
/-- a pulse behind a tick, and what is told -/
def tckF (p j q s : Int) (du un : Int) (wt : Bool) (nw dr : Int) : (Int × Int × Bool) × Int :=
  if du ≤ nw then ((nw + (p + max 0 (min dr j)), un, false), 2) else if wt then chgF q s du un wt nw dr else ((du, un, wt), 0)
/-- the look's block behind it, and what is told -/
def Told (b : Nat) (p j t h g q s cp : Int) (A : Option Addr) (n k : Nat) (nw dr : Int) (w : World) (x : (Int × Int × Bool) × Int) (e : Ending) (w' : World) : Prop :=
  e = .returned (.int .i64 x.2) ∧ Blk w' b 58 #[.int .i64 x.1.1, .int .i64 x.1.2.1, .bool x.1.2.2, .int .i64 p, .int .i64 j, .int .i64 t, .int .i64 h, .int .i64 g, .int .i64 q, .int .i64 s, .int .i64 cp, .slice A n k, .int .i64 nw, .int .i64 dr] ∧ w.grownBy w' (some b)

section
variable (b : Nat) (p j t h g q s cp : Int) (A : Option Addr) (n k B : Nat) (l : List (Nat × Int)) (hn : l.length = n) (du un nw dr : Int) (wt : Bool) (w : World) (hb : Blk w b 58 #[.int .i64 du, .int .i64 un, .bool wt, .int .i64 p, .int .i64 j, .int .i64 t, .int .i64 h, .int .i64 g, .int .i64 q, .int .i64 s, .int .i64 cp, .slice A n k, .int .i64 nw, .int .i64 dr]) (hr : Rd w B A (plC l)) (hB : B ≤ w.heap.size) (hnk : n ≤ k) (hk : k ≤ 9223372036854775807) (hl : ∀ x ∈ l, x.1 < 4294967296) (hw : CapsAt w) (hok : okC p j t h g q s cp l = true) (hnw : okN nw = true)
include hn hb hr hB hnk hk hl hw hok hnw

set_option maxHeartbeats 1000000 in
theorem change_any :
    Calls Tryd.prog 30 #[.pointer (some ⟨b, 0, none⟩)] w (Told b p j t h g q s cp A n k nw dr w (chgF q s du un wt nw dr)) := by
  have c0 := (hb).cell 0
  have c1 := (hb).cell 1
  have c2 := (hb).cell 2
  have c3 := (hb).cell 3
  have c4 := (hb).cell 4
  have c5 := (hb).cell 5
  have c6 := (hb).cell 6
  have c7 := (hb).cell 7
  have c8 := (hb).cell 8
  have c9 := (hb).cell 9
  have c10 := (hb).cell 10
  have c11 := (hb).cell 11
  have c12 := (hb).cell 12
  have c13 := (hb).cell 13
  simp only [List.getElem?_toArray, List.getElem?_cons_zero, List.getElem?_cons_succ] at c0 c1 c2 c3 c4 c5 c6 c7 c8 c9 c10 c11 c12 c13
  have f2 := hb.frozen 2
  have HT := Lib.hid (fun m => tellC_any b p j t h g q s cp A n k B l hn du un nw dr wt (w.drewN m) (hb.drewN m) (hr.drewN m) hB hnk hk hl (hw.drewN m) hok hnw)
  have HB := Lib.hid hb
  clear hr hl hw hb hok hnw
  by_cases hu : un ≤ nw
  · have hX := Lib.hid (show chgF q s du un wt nw dr = ((du, nw + (q + max 0 (min dr s)), false), 1) from if_pos hu)
    go_enter Tryd.func30, Tryd.ntmps30
    go_wp2_with fail
    go_quiet (fail)
    go_wp2_with fail
    refine (HT.out _).mono ?_
    rintro e w1 ⟨rfl, z, gz⟩
    go_wp2_with fail
    go_ret
    rw [hX.out]
    exact ⟨rfl, z, only_of_drewN gz⟩
  · have hX := Lib.hid (show chgF q s du un wt nw dr = ((du, un, true), 0) from if_neg hu)
    have hd : decide (un ≤ nw) = false := by simpa using hu
    go_enter Tryd.func30, Tryd.ntmps30
    go_wp2_with fail
    go_quiet (fail)
    go_wp2_with fail
    go_ret
    rw [hX.out]
    have z := HB.out.set 2 (.bool true)
    simp only [List.setIfInBounds_toArray, List.set_cons_zero, List.set_cons_succ] at z
    exact ⟨rfl, z, only_drewN (only_set (only_refl w b)) _⟩

set_option maxHeartbeats 1000000 in
theorem tick_any :
    Calls Tryd.prog 31 #[.pointer (some ⟨b, 0, none⟩)] w (Told b p j t h g q s cp A n k nw dr w (tckF p j q s du un wt nw dr)) := by
  have c0 := (hb).cell 0
  have c1 := (hb).cell 1
  have c2 := (hb).cell 2
  have c3 := (hb).cell 3
  have c4 := (hb).cell 4
  have c5 := (hb).cell 5
  have c6 := (hb).cell 6
  have c7 := (hb).cell 7
  have c8 := (hb).cell 8
  have c9 := (hb).cell 9
  have c10 := (hb).cell 10
  have c11 := (hb).cell 11
  have c12 := (hb).cell 12
  have c13 := (hb).cell 13
  simp only [List.getElem?_toArray, List.getElem?_cons_zero, List.getElem?_cons_succ] at c0 c1 c2 c3 c4 c5 c6 c7 c8 c9 c10 c11 c12 c13
  have f2 := hb.frozen 2
  have HT := Lib.hid (fun m => tellA_any b p j t h g q s cp A n k B l hn du un nw dr wt (w.drewN m) (hb.drewN m) (hr.drewN m) hB hnk hk hl (hw.drewN m) hok hnw)
  have HCH := Lib.hid (fun m => change_any b p j t h g q s cp A n k B l hn du un nw dr wt (w.drewN m) (hb.drewN m) (hr.drewN m) hB hnk hk hl (hw.drewN m) hok hnw)
  have HB := Lib.hid hb
  clear hr hl hw hb hok hnw
  by_cases hu : du ≤ nw
  · have hX := Lib.hid (show tckF p j q s du un wt nw dr = ((nw + (p + max 0 (min dr j)), un, false), 2) from if_pos hu)
    go_enter Tryd.func31, Tryd.ntmps31
    go_wp2_with fail
    go_quiet (fail)
    go_wp2_with fail
    refine (HT.out _).mono ?_
    rintro e w1 ⟨rfl, z, gz⟩
    go_wp2_with fail
    go_ret
    rw [hX.out]
    exact ⟨rfl, z, only_of_drewN gz⟩
  · have hd : decide (du ≤ nw) = false := by simpa using hu
    cases wt
    · have hX := Lib.hid (show tckF p j q s du un false nw dr = ((du, un, false), 0) from by simp [tckF, hu])
      go_enter Tryd.func31, Tryd.ntmps31
      go_wp2_with fail
      go_quiet (fail)
      go_wp2_with fail
      go_ret
      rw [hX.out]
      exact ⟨rfl, HB.out, only_drewN (only_refl w b) _⟩
    · have hX := Lib.hid (show tckF p j q s du un true nw dr = chgF q s du un true nw dr from by simp [tckF, hu])
      go_enter Tryd.func31, Tryd.ntmps31
      go_wp2_with fail
      go_quiet (fail)
      go_wp2_with fail
      refine (HCH.out _).mono ?_
      rintro e w1 ⟨rfl, z, gz⟩
      go_wp2_with fail
      go_ret
      rw [hX.out]
      exact ⟨rfl, z, only_of_drewN gz⟩
end
end Go.Proofs.YtlgkjboamfgbeaaDoor
