/- config: the spans' names and the spans' table. -/
import Derived.Test.YtgjeejdebneoaaaDoorRows
import Derived.Test.YtgjeejdebneoaaaDoorBase2
import Derived.WalkSmall
namespace Go.Proofs.YtgjeejdebneoaaaDoor
set_option linter.unusedVariables false
set_option linter.unusedSimpArgs false
open Go.RowKit
set_option maxRecDepth 100000

theorem str_info : (Tryd.prog.info? 9).map (fun i => (i.zero, i.size, i.bytes)) = some (some (.string ⟨#[]⟩), 1, 16) := by kernel_rfl

/-- the words of a text as far as a place, and where the next one begins -/
def wst (s : ByteArray) : Nat → List ByteArray × Nat
  | 0 => ([], 0)
  | k + 1 => if (s[k]?.getD 0).toNat = 32 then ((wst s k).1 ++ [s.extract (wst s k).2 k], k + 1) else wst s k
theorem wst_le (s : ByteArray) (k : Nat) : (wst s k).2 ≤ k ∧ (wst s k).1.length ≤ k := by
  induction k with
  | zero => simp [wst]
  | succ k ih =>
    unfold wst
    split
    · simp; omega
    · omega
theorem wst_yes (s : ByteArray) (k : Nat) (h : k < s.size) (e : ((s[k]'h).toNat : Int) = 32) : wst s (k + 1) = ((wst s k).1 ++ [s.extract (wst s k).2 k], k + 1) := by
  rw [wst, if_pos]
  rw [getElem?_pos s k h, Option.getD_some]; omega
theorem wst_no (s : ByteArray) (k : Nat) (h : k < s.size) (e : ¬ ((s[k]'h).toNat : Int) = 32) : wst s (k + 1) = wst s k := by
  rw [wst, if_neg]
  rw [getElem?_pos s k h, Option.getD_some]; omega

set_option maxHeartbeats 2000000 in
theorem words_any (s : ByteArray) (w : World) (hs : ∀ i (h : i < s.size), (s[i]'h).toNat < 128) (hsz : s.size ≤ 1000) :
    Calls Tryd.prog 93 #[.string s] w fun e w' => ∃ v, e = .returned v ∧ w'.ownsRow (w.heap.size + 1) 9 1 v ((wst s s.size).1.length + 1) (((wst s s.size).1 ++ [s.extract (wst s s.size).2 s.size]).map Value.string) ∧ Below w.heap.size w w' := by
  obtain ⟨i0, hi0, hz0, hz1, hz2⟩ := info_parts str_info
  go_enter Tryd.func93, Tryd.ntmps93
  go_wp2
  go_loopw [3, 4] (fun v b wr => ∃ k : Nat, k ≤ s.size ∧ b = .int .i64 (wst s k).2 ∧ wr.heap[w.heap.size]? = some (.stringIter s k) ∧ wr.ownsRow (w.heap.size + 1) 9 1 v (wst s k).1.length ((wst s k).1.map Value.string) ∧ Below w.heap.size w wr) (fun _ _ wr => s.size - wr.iterPos w.heap.size)
  case atStart => exact ⟨0, by omega, rfl, World.iter_heap w s 0, World.ownsRow_nil _ _ _ _, (Below.refl _ _).alloc (Nat.le_refl _) _⟩
  case round =>
    obtain ⟨k, hk, rfl, hit, hown, hbw⟩ := hrel
    have hpos0 := iterPos_of hit
    have hle := wst_le s k
    by_cases hp : k < s.size
    · have hnx : ∀ ty, (Instr.next (.pointer (some ⟨w.heap.size, 0, none⟩)) true ty).run Tryd.prog wr = _ := fun ty => Lib.run_next_ascii_at wr w.heap.size s k ty hit hp (hs k hp)
      have hit2 := Lib.iterAt_heap wr w.heap.size s k (k + 1) hit
      have hbw2 := Lib.below_iterAt hbw (k := w.heap.size) (Nat.le_refl _) s (k + 1)
      have hown2 := ownsRow_iterAt hown (k := w.heap.size) (by omega) s (k + 1)
      obtain ⟨W1, hW1⟩ : ∃ W1, W1 = wr.iterAt w.heap.size s (k + 1) := ⟨_, rfl⟩
      rw [← hW1] at hnx hit2 hbw2 hown2
      have hBlt := lt_of_block hit2
      clear hW1 hit hown hbw
      by_cases hc : ((s[k]'hp).toNat : Int) = 32
      · have hy := wst_yes s k hp hc
        generalize hq : wst s k = q at *
        obtain ⟨q1, q2⟩ := q
        simp only at hle hown2 hy ⊢
        go_wp2_with (first
          | (at_builtin; refine wpList_append_rd rfl (.tmp 15) (.tmp 20) _ rfl (w.heap.size + 1) 9 i0 _ 1 16 Tryd.underlying141 hi0 hz0 hz1 hz2 rfl (by omega) u3 _ _ rfl (hown2.alloc _) 1 1 [.string (s.extract q2 k)] rfl rfl (Rd.new _ _ [.string (s.extract q2 k)]) (by simp [Value.oneCell']) (by simp only [maxLen]; omega) (by omega) (by simp; omega) ?_; intro v1 w1 ho1 hg1 ha1))
        go_roundw
        case rel =>
          refine ⟨k + 1, by omega, by rw [hy]; go_num, ?_, ?_, ?_⟩
          · rw [hg1.block w.heap.size (by simp; omega) (fun h => by have := (hown2.lt _ h.symm).1; omega), Below.heap_alloc _ _ _ hBlt]; exact hit2
          · rw [hy]; simpa using ho1
          · exact Below.grown (hbw2.alloc (by omega) _) hg1 (by simp; omega) (fun j hj => by have := (hown2.lt _ hj).1; omega)
        case measure =>
          rw [hpos0, iterPos_of (s := s) (p := k + 1)]
          · omega
          · rw [hg1.block w.heap.size (by simp; omega) (fun h => by have := (hown2.lt _ h.symm).1; omega), Below.heap_alloc _ _ _ hBlt]; exact hit2
      · have hy := wst_no s k hp hc
        have hc' : (((s[k]'hp).toNat : Int) == 32) = false := by simpa using hc
        go_wp2_with fail
        go_roundw
        case rel => exact ⟨k + 1, by omega, by rw [hy], hit2, by rw [hy]; exact hown2, hbw2⟩
        case measure => rw [hpos0, iterPos_of hit2]; omega
    · have hnx : ∀ ty, (Instr.next (.pointer (some ⟨w.heap.size, 0, none⟩)) true ty).run Tryd.prog wr = _ := fun ty => Lib.run_next_end_at wr w.heap.size s k ty hit hp
      obtain rfl : k = s.size := by omega
      obtain ⟨⟨q1, q2⟩, hq⟩ : ∃ q, wst s s.size = q := ⟨_, rfl⟩
      rw [hq] at hown hle ⊢
      simp only at hle hown ⊢
      have hlt := lt_of_block hit
      go_wp2_with (first
          | (at_builtin; refine wpList_append_rd rfl (.tmp 24) (.tmp 28) _ rfl (w.heap.size + 1) 9 i0 _ 1 16 Tryd.underlying141 hi0 hz0 hz1 hz2 rfl (by omega) u3 _ _ rfl (hown.alloc _) 1 1 [.string (s.extract q2 s.size)] rfl rfl (Rd.new _ _ [.string (s.extract q2 s.size)]) (by simp [Value.oneCell']) (by simp only [maxLen]; omega) (by omega) (by simp; omega) ?_; intro v1 w1 ho1 hg1 ha1))
      go_ret
      exact ⟨_, rfl, by rw [hq]; simpa using ho1, Below.grown (hbw.alloc (by omega) _) hg1 (by simp; omega) (fun j hj => by have := (hown.lt _ hj).1; omega)⟩
end Go.Proofs.YtgjeejdebneoaaaDoor
