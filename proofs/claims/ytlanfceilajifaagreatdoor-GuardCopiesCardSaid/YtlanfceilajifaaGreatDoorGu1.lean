/- guard: where a tally counts what; how much, and no more than the most. -/
import Derived.Test.YtlanfceilajifaaGreatDoorMA
import Derived.Test.YtlanfceilajifaaGreatDoorMD
import Derived.Defers
import Derived.Recover
import Derived.Laws.Pointers
import Derived.WalkLawsBesides
import Derived.RegionTactic
namespace Go.Proofs.YtlanfceilajifaaGreatDoor
set_option linter.unusedVariables false
set_option linter.unusedSimpArgs false
open Go.RowKit
set_option maxRecDepth 100000

def errL16 : List Int := [4, 150, 151, 152, 153, 154, 190, 191, 192]
/-- where an error is counted -/
def ixE (e : Int) : Option Nat := errL16.findIdx? (· == e)
/-- where a reason is counted -/
def ixR (r : Int) : Option Nat := if 1 ≤ r ∧ r ≤ 6 then some (8 + r.toNat) else none
theorem ixE_some {e : Int} {c : Nat} (h : errL16[c]? = some e) (hn : ∀ k, k < c → errL16[k]? ≠ some e) : ixE e = some c := by
  obtain ⟨hc, hv⟩ := List.getElem?_eq_some_iff.1 h
  refine List.findIdx?_eq_some_iff_getElem.2 ⟨hc, by simp [hv], fun j hj => ?_⟩
  have := hn j hj
  rw [List.getElem?_eq_getElem (by omega)] at this
  simpa using this
theorem ixE_none {e : Int} (hn : ∀ k, k < 9 → errL16[k]? ≠ some e) : ixE e = none := by
  refine List.findIdx?_eq_none_iff.2 fun x hx => ?_
  obtain ⟨j, hj, rfl⟩ := List.getElem_of_mem hx
  have := hn j hj
  rw [List.getElem?_eq_getElem hj] at this
  simpa using this
theorem ixE_lt {e : Int} {c : Nat} (h : ixE e = some c) : c < 9 := by
  obtain ⟨hc, _⟩ := List.findIdx?_eq_some_iff_getElem.1 h
  exact hc
def ptrO (g : Nat) : Option Nat → Value
  | none => .pointer none
  | some k => .pointer (some ⟨g, 1 + k, none⟩)

theorem counted_any (w : World) : Calls Tryz.prog 70 #[] w fun e w' => e = .returned (.agg #[.int .i64 4, .int .i64 150, .int .i64 151, .int .i64 152, .int .i64 153, .int .i64 154, .int .i64 190, .int .i64 191, .int .i64 192]) ∧ Below w.heap.size w w' := by
  go_enter Tryz.func70, Tryz.ntmps70
  go_wp2_with fail
  go_returns
  exact ⟨rfl, balloc (Below.refl _ _) _⟩

theorem live_nil (w : World) : Calls Tryz.prog 68 #[.pointer none] w fun e w' => e = .returned (.bool false) ∧ w = w' := by
  go_enter Tryz.func68, Tryz.ntmps68
  go_wp2_with fail
  go_ret
  exact ⟨rfl, rfl⟩
theorem live_any (g : Nat) (w : World) (h : w.cell? ⟨g, 0, none⟩ = some (.bool true)) : Calls Tryz.prog 68 #[.pointer (some ⟨g, 0, none⟩)] w fun e w' => e = .returned (.bool true) ∧ w = w' := by
  go_enter Tryz.func68, Tryz.ntmps68
  go_wp2_with fail
  go_ret
  exact ⟨rfl, rfl⟩

set_option maxHeartbeats 2000000 in
theorem place_err (g : Nat) (e : Int) (w : World) :
    Calls Tryz.prog 98 #[.pointer (some ⟨g, 1, none⟩), .iface 29 (.int .i64 e)] w fun e' w' => e' = .returned (ptrO g (ixE e)) ∧ Below w.heap.size w w' := by
  have hta : ∀ w, (Instr.typeAssert (.iface 29 (.int .i64 e)) 20 29 true).run Tryz.prog w = .ok (.tuple #[.int .i64 e, .bool true]) w := fun _ => by kernel_rfl
  obtain ⟨ev, hev⟩ : ∃ ev : Value, ev = (.agg #[.int .i64 4, .int .i64 150, .int .i64 151, .int .i64 152, .int .i64 153, .int .i64 154, .int .i64 190, .int .i64 191, .int .i64 192]) := ⟨_, rfl⟩
  have hix : ∀ (k : Nat) (v : Int) (w : World), errL16[k]? = some v → (Instr.index 139 ev (.int .i64 k)).run Tryz.prog w = .ok (.int .i64 v) w := by
    intro k v w hk
    have h9 : k < 9 := (List.getElem?_eq_some_iff.1 hk).1
    rcases (by omega : k = 0 ∨ k = 1 ∨ k = 2 ∨ k = 3 ∨ k = 4 ∨ k = 5 ∨ k = 6 ∨ k = 7 ∨ k = 8) with rfl | rfl | rfl | rfl | rfl | rfl | rfl | rfl | rfl
    all_goals
      obtain rfl := Option.some.inj hk
      subst hev
      show _ = _
      kernel_rfl
  have HC := Lib.hid (fun W => counted_any W)
  rw [← hev] at HC
  clear hev
  go_enter Tryz.func98, Tryz.ntmps98
  go_wp2_with fail
  refine (HC.out _).mono ?_
  rintro e' w1 ⟨rfl, b1⟩
  have BB := Lib.hid b1
  clear b1
  go_wp2_with fail
  go_loopw [14] (fun i wr => ∃ c : Nat, c ≤ 9 ∧ i = .int .i64 c ∧ w1 = wr ∧ Hid (∀ k, k < c → errL16[k]? ≠ some e)) (fun i _ => 9 - (intOf i).toNat)
  case atStart => exact ⟨0, by omega, rfl, rfl, Lib.hid (fun k hk => absurd hk (by omega))⟩
  case round =>
    obtain ⟨c, hc, rfl, rfl, hsm⟩ := hrel
    by_cases hlt : c < 9
    case neg =>
      obtain rfl : c = 9 := by omega
      go_wp2_with fail
      go_ret
      rw [ixE_none hsm.out]
      exact ⟨rfl, BB.out⟩
    case pos =>
      have d0 : decide ((c : Int) < 9) = true := by simp; omega
      have hwk : IntKind.i64.wrap ((c : Int) + 1) = (c : Int) + 1 := IntWalk.i64_in _ ⟨by omega, by omega⟩
      obtain ⟨v, hv⟩ : ∃ v, errL16[c]? = some v := ⟨_, List.getElem?_eq_getElem hlt⟩
      have hix1 := fun w => hix c v w hv
      have HV := Lib.hid hv
      clear hv hix
      by_cases hve : v = e
      · subst hve
        have d1 : (v == v) = true := by simp
        have hin : (c : Int) < 9 := by omega
        go_wp2_with fail
        go_ret
        rw [ixE_some HV.out hsm.out]
        exact ⟨rfl, BB.out⟩
      · have d1 : (v == e) = false := by simpa using hve
        have HN := Lib.hid hve
        clear hve
        go_wp2_with fail
        go_roundw
        case rel =>
          refine ⟨c + 1, by omega, by go_num, by trivial, Lib.hid (fun k hk => ?_)⟩
          rcases (by omega : k < c ∨ k = c) with h | rfl
          · exact hsm.out k h
          · rw [HV.out]; intro q; cases q; exact HN.out rfl
        case measure => simp [intOf]; omega
end Go.Proofs.YtlanfceilajifaaGreatDoor
