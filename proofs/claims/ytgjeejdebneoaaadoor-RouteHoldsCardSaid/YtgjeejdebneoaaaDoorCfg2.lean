/- config: the table of spans; lists of prefixes. -/
import Derived.Test.YtgjeejdebneoaaaDoorCfg
import Derived.Test.YtgjeejdebneoaaaDoorEq
namespace Go.Proofs.YtgjeejdebneoaaaDoor
set_option linter.unusedVariables false
set_option linter.unusedSimpArgs false
open Go.RowKit
set_option maxRecDepth 100000

/-- the spans' names, one blank between each two -/
def namesS : ByteArray := ⟨#[112, 101, 114, 105, 111, 100, 32, 106, 105, 116, 116, 101, 114, 32, 116, 105, 109, 101, 111, 117, 116, 32, 104, 111, 108, 100, 32, 103, 97, 114, 98, 97, 103, 101, 32, 113, 117, 105, 101, 116, 32, 115, 112, 114, 101, 97, 100]⟩
def nmS (i : Nat) : ByteArray := match i with
  | 0 => ⟨#[112, 101, 114, 105, 111, 100]⟩ | 1 => ⟨#[106, 105, 116, 116, 101, 114]⟩ | 2 => ⟨#[116, 105, 109, 101, 111, 117, 116]⟩ | 3 => ⟨#[104, 111, 108, 100]⟩ | 4 => ⟨#[103, 97, 114, 98, 97, 103, 101]⟩ | 5 => ⟨#[113, 117, 105, 101, 116]⟩ | _ => ⟨#[115, 112, 114, 101, 97, 100]⟩
theorem names_words : (wst namesS namesS.size).1 ++ [namesS.extract (wst namesS namesS.size).2 namesS.size] = [nmS 0, nmS 1, nmS 2, nmS 3, nmS 4, nmS 5, nmS 6] := by decide +kernel
theorem names_ascii : ∀ i (h : i < namesS.size), (namesS[i]'h).toNat < 128 := by decide +kernel

/-- the least that a span may be -/
def lstS (i : Nat) : Int := match i with | 0 => 1 | 1 => 0 | 2 => 1 | 3 => 0 | 4 => 1 | 5 => 0 | _ => 0
/-- the function that tells a span -/
def fnS (i : Nat) : FuncId := match i with | 0 => 86 | 1 => 87 | 2 => 88 | 3 => 89 | 4 => 90 | 5 => 91 | _ => 92
/-- the table, so many names in it -/
def tabS (m : Nat) : Array Value := ((List.range 7).flatMap fun i => [.string (if i < m then nmS i else ⟨#[]⟩), .int .i64 (lstS i), .func (.func (fnS i)) #[] #[]]).toArray
theorem tabS_set (m : Nat) (h : m < 7) : (tabS m).setIfInBounds (m * 3) (.string (nmS m)) = tabS (m + 1) := by
  rcases (by omega : m = 0 ∨ m = 1 ∨ m = 2 ∨ m = 3 ∨ m = 4 ∨ m = 5 ∨ m = 6) with rfl | rfl | rfl | rfl | rfl | rfl | rfl <;> rfl
theorem tabS_at (m i : Nat) (h : i < 7) : (tabS m)[i * 3]? = some (.string (if i < m then nmS i else ⟨#[]⟩)) ∧ (tabS m)[i * 3 + 1]? = some (.int .i64 (lstS i)) ∧ (tabS m)[i * 3 + 2]? = some (.func (.func (fnS i)) #[] #[]) := by
  rcases (by omega : i = 0 ∨ i = 1 ∨ i = 2 ∨ i = 3 ∨ i = 4 ∨ i = 5 ∨ i = 6) with rfl | rfl | rfl | rfl | rfl | rfl | rfl <;> exact ⟨rfl, rfl, rfl⟩
theorem names_at (i : Nat) (h : i < 7) : ([nmS 0, nmS 1, nmS 2, nmS 3, nmS 4, nmS 5, nmS 6].map Value.string)[i]? = some (.string (nmS i)) := by
  rcases (by omega : i = 0 ∨ i = 1 ∨ i = 2 ∨ i = 3 ∨ i = 4 ∨ i = 5 ∨ i = 6) with rfl | rfl | rfl | rfl | rfl | rfl | rfl <;> rfl

set_option maxHeartbeats 1000000 in
theorem spans_any (w : World) :
    Calls Tryd.prog 78 #[] w fun e w' => e = .returned (.slice (some ⟨w.heap.size, 0, none⟩) 7 7) ∧ Blk w' w.heap.size 125 (tabS 7) ∧ Below w.heap.size w w' := by
  have hwd := fun W => words_any namesS W names_ascii (by decide)
  rw [names_words] at hwd
  rw [show (wst namesS namesS.size).1.length + 1 = 7 by decide +kernel] at hwd
  have HW := Lib.hid hwd
  clear hwd
  go_enter Tryd.func78, Tryd.ntmps78
  go_wp2_with fail
  refine (HW.out _).mono ?_
  rintro e w1 ⟨v, rfl, ho, hb⟩
  rcases ho.2 with ⟨_, h0⟩ | ⟨gr, cap, cur, rfl, hgr, _, hc7, hcm, _⟩
  · omega
  have hc := fun i (hi : i < 7) => (ho.cells (g := gr) (by simp [Value.ownBlock]) i _ (names_at i hi))
  simp only [add_plain, Nat.zero_add] at hc
  have hT : Blk w1 w.heap.size 125 (tabS 0) := by
    have := Blk.new w 125 (tabS 0)
    exact this.below hb (by simp)
  have hb1 := bnext (balloc (Below.refl _ w) _) hb
  have hgl : w.heap.size < gr := by simp at hgr; omega
  have hsz : w.heap.size ≤ w1.heap.size := hb1.size
  have HC := Lib.hid hc
  clear hc hb ho
  go_wp2_with fail
  go_loopw [14] (fun i wr => ∃ m : Nat, m ≤ 7 ∧ i = .int .i64 m ∧ Blk wr w.heap.size 125 (tabS m) ∧ (∀ i, i < 7 → wr.cell? ⟨gr, i, none⟩ = some (.string (nmS i))) ∧ Below w.heap.size w wr) (fun i _ => 7 - (intOf i).toNat)
  case atStart => exact ⟨0, by omega, rfl, hT, HC.out, hb1⟩
  case round =>
    obtain ⟨m, hm, rfl, hB, hn, hbw⟩ := hrel
    by_cases hlt : m < 7
    · have c0 := hn m hlt
      have t0 := hB.cell (m * 3)
      rw [(tabS_at m m hlt).1] at t0
      have tf := hB.frozen (m * 3)
      have HB := Lib.hid hB
      have HN := Lib.hid hn
      clear hB hn
      go_wp2_with fail
      go_roundw
      case rel =>
        refine ⟨m + 1, by omega, by go_num, ?_, ?_, ?_⟩
        · rw [← tabS_set m hlt]; exact HB.out.set _ _
        · intro i hi
          exact (World.cell?_setCell_other _ _ _ _ (fun e => by have := congrArg Addr.block e; simp at this; omega)).trans (HN.out i hi)
        · exact hbw.setCell (Nat.le_refl _) _
      case measure => simp [intOf]; omega
    · obtain rfl : m = 7 := by omega
      go_wp2_with fail
      go_ret
      exact ⟨rfl, hB, hbw⟩
end Go.Proofs.YtgjeejdebneoaaaDoor
