/- OctetPuts: the walk. -/
import Derived.Test.YtonjaoabehkecaaDoorWorks3
namespace Go.Proofs.YtonjaoabehkecaaDoor
open Go.RowKit

theorem putF_len (n : Nat) (k : Int) : (putF n k).1.length ≤ 4 := by
  unfold putF
  split
  · simp
  · rename_i h
    have := isW_cases (by simpa using h)
    split
    · rw [bs_length]; omega
    · simp
theorem putF_cases (n : Nat) (k : Int) : (putF n k).2 ≠ 0 ∨ ((putF n k).2 = 0 ∧ isW k = true ∧ 0 ≤ k ∧ k ≤ 4 ∧ (putF n k).1.length = k.toNat ∧ be (putF n k).1 = n) := by
  unfold putF
  split
  · left; simp
  · rename_i h
    have h' : isW k = true := by simpa using h
    have := isW_cases h'
    split
    · rename_i hn
      right; refine ⟨rfl, h', by omega, by omega, bs_length _ _, ?_⟩
      rw [be_bs, Nat.mod_eq_of_lt hn]
    · left; simp
theorem rdF_mid (a b c : List UInt8) (k : Int) (hk : isW k = true) (hb : b.length = k.toNat) : rdF (a ++ b ++ c) a.length k = (be b, 0) := by
  have := isW_cases hk
  unfold rdF
  rw [if_neg (by simp [hk]), if_neg (by omega), if_neg (by simp; omega)]
  simp [← hb]

set_option maxHeartbeats 1000000 in
set_option maxRecDepth 100000 in
theorem puts_walk (n : Nat) (k : Int) (A2 A3 : Option Addr) (c2 c3 : Nat) (l2 l3 : List UInt8) (w : World) (hw : WidthsAt w) (hn : n < 4294967296)
    (r2 : Rd w w.heap.size A2 (l2.map b8)) (r3 : Rd w w.heap.size A3 (l3.map b8)) :
    Calls Tryd.prog 3 #[.int .u32 n, .int .i64 k, .slice A2 l2.length c2, .slice A3 l3.length c3] w fun e w' => e = .returned (.bool true) ∧ Below w.heap.size w w' := by
  have HW := Lib.hid hw
  clear hw
  by_cases h2 : 40 < l2.length
  · go_enter Tryd.func3, Tryd.ntmps3
    go_wp2_with (go_at_call 8; refine (works_any _ HW.out).mono ?_; rintro e w' ⟨rfl, b1⟩)
    go_ret
    exact ⟨rfl, b1⟩
  by_cases h3 : 40 < l3.length
  · go_enter Tryd.func3, Tryd.ntmps3
    go_wp2_with (go_at_call 8; refine (works_any _ HW.out).mono ?_; rintro e w' ⟨rfl, b1⟩)
    go_ret
    exact ⟨rfl, b1⟩
  have P1 := fun W (h : WidthsAt W) => put_any n k W h hn
  have P2 := fun W => refPut_any n k W hn
  have hl4 := putF_len n k
  have hpc := putF_cases n k
  generalize putF n k = r at *
  obtain ⟨l, er⟩ := r
  simp only at P1 P2 hl4 hpc
  have C1 := Lib.hid P1
  have C2 := Lib.hid P2
  clear P1 P2
  rcases hpc with he | ⟨he, hk1, hk2, hk3, hk4, hk5⟩
  · have hd1 : (er != er) = false := by simp
    have hd2 : (er != 0) = true := by simpa using he
    have hd3 : (str l != str l) = false := str_same l
    clear he
    go_enter Tryd.func3, Tryd.ntmps3
    go_wp2_with fail
    refine (C1.out _ HW.out).mono ?_
    rintro e w1 ⟨A4, c4, rfl, _, _, q1, b1⟩
    go_wp2_with fail
    refine (C2.out _).mono ?_
    rintro e w2 ⟨A5, c5, rfl, _, _, q2, b2⟩
    replace q1 := q1.below b2
    replace b2 := bnext b1 b2
    have s1 := conv_rd (P := Tryd.prog) 23 9 5 Tryd.underlying23 Tryd.underlying5 Tryd.underlying9 c4 q1
    have s2 := conv_rd (P := Tryd.prog) 23 9 5 Tryd.underlying23 Tryd.underlying5 Tryd.underlying9 c5 q2
    go_wp2_with (first
      | (go_at_call 11; refine (num_any _ _).mono ?_; rintro e w' ⟨rfl, rfl⟩)
      | (go_at_call 8; refine (works_any _ (HW.out.below b2)).mono ?_; rintro e w' ⟨rfl, b3⟩))
    go_ret
    exact ⟨rfl, bnext b2 b3⟩
  · subst he
    have hd3 : (str l != str l) = false := str_same l
    obtain ⟨i0, hi0, hz0, hz1, hz2⟩ := info_parts u8_info
    have HK := Lib.hid hk4
    have HB := Lib.hid hk5
    clear hk4 hk5
    go_enter Tryd.func3, Tryd.ntmps3
    go_wp2_with fail
    refine (C1.out _ HW.out).mono ?_
    rintro e w1 ⟨A4, c4, rfl, _, _, q1, b1⟩
    go_wp2_with fail
    refine (C2.out _).mono ?_
    rintro e w2 ⟨A5, c5, rfl, _, _, q2, b2⟩
    replace q1 := (q1.below b2).more b2.size
    replace b2 := bnext b1 b2
    have s1 := conv_rd (P := Tryd.prog) 23 9 5 Tryd.underlying23 Tryd.underlying5 Tryd.underlying9 c4 q1
    have s2 := conv_rd (P := Tryd.prog) 23 9 5 Tryd.underlying23 Tryd.underlying5 Tryd.underlying9 c5 q2
    replace r2 := (r2.below b2).more b2.size
    replace r3 := (r3.below b2).more b2.size
    go_wp2_with (first
      | (go_at_call 11; refine (num_any _ _).mono ?_; rintro e w' ⟨rfl, rfl⟩)
      | (at_builtin; refine wpList_append_rd rfl (.tmp 51) (.tmp 52) _ rfl w2.heap.size 5 i0 _ 1 1 Tryd.underlying23 hi0 hz0 hz1 hz2 rfl (by omega) (.slice (some ⟨w2.heap.size, 0, none⟩) 0 0) 0 [] rfl (World.ownsRow_lit w2 #[] 0 (Nat.le_refl _) (by simp [maxLen]) (by simp)) l2.length c2 (l2.map b8) rfl (by simp) (r2.alloc (Nat.le_refl _) _) (b8_one l2) (by simp only [maxLen]; omega) (by omega) (by simp) ?_
         intro v3 w3 ho3 hg3 ha3
         have b3 : Below w2.heap.size w2 w3 := ((Below.refl _ _).alloc (Nat.le_refl _) _).grown hg3 (by simp) (by simp [Value.ownBlock])
         clear hg3 ha3 s1 s2)
      | (at_builtin; refine wpList_append_rd rfl (.tmp 53) (.tmp 54) _ rfl w2.heap.size 5 i0 _ 1 1 Tryd.underlying23 hi0 hz0 hz1 hz2 rfl (by omega) v3 _ _ rfl ho3 l.length c4 (l.map b8) rfl (by simp) (q1.below b3) (b8_one l) (by simp only [maxLen]; omega) (by omega) b3.size ?_
         intro v4 w4 ho4 hg4 ha4
         have b4 : Below w2.heap.size w2 w4 := b3.grown hg4 b3.size (fun k hk => (ho3.lt k hk).1)
         clear hg4 ha4)
      | (at_builtin; refine wpList_append_rd rfl (.tmp 55) (.tmp 56) _ rfl w2.heap.size 5 i0 _ 1 1 Tryd.underlying23 hi0 hz0 hz1 hz2 rfl (by omega) v4 _ _ rfl ho4 l3.length c3 (l3.map b8) rfl (by simp) (r3.below b4) (b8_one l3) (by simp only [maxLen]; omega) (by omega) b4.size ?_
         intro v5 w5 ho5 hg5 ha5
         have b5 : Below w2.heap.size w2 w5 := b4.grown hg5 b4.size (fun k hk => (ho4.lt k hk).1)
         replace b5 := bnext b2 b5
         clear hg5 ha5 b3 b4 ho3 ho4
         rw [List.nil_append, ← List.map_append, ← List.map_append] at ho5
         obtain ⟨A6, c6, rfl, g1, g2, g3⟩ := own_slice (l := l2 ++ l ++ l3) (by simp; omega) ho5
         unfold maxLen at g2
         have hrd := rdF_mid l2 l l3 k hk1 HK.out
         have hlen : (l2 ++ l ++ l3).length ≤ 100 := by simp; omega
         generalize l2 ++ l ++ l3 = l6 at *
         have HR := Lib.hid hrd
         clear hrd ho5)
      | (go_at_call 12; refine (read_any l6 _ rfl _ _ _ _ (HW.out.below b5) g3 g1 (by omega) _ _).mono ?_; rw [HR.out, HB.out]; rintro e w' ⟨rfl, rfl⟩)
      | (go_at_call 8; refine (works_any _ (HW.out.below b5)).mono ?_; rintro e w' ⟨rfl, b6⟩))
    go_ret
    exact ⟨rfl, bnext b5 b6⟩
end Go.Proofs.YtonjaoabehkecaaDoor
