/- prefix: Has, Stands; their references. -/
import Derived.Test.YtfgbliglgdkgpaaDoorPfxR
import Derived.Test.YtfgbliglgdkgpaaDoorEq
namespace Go.Proofs.YtfgbliglgdkgpaaDoor
set_option linter.unusedVariables false
set_option linter.unusedSimpArgs false
open Go.RowKit
set_option maxRecDepth 100000

/-- is an address in a prefix that may be? -/
def hasF (p : Nat × Int) (a : Nat) : Bool := okP p && decide (a / 2 ^ (32 - p.2.toNat) = p.1 / 2 ^ (32 - p.2.toNat))
theorem maskF_shift : ∀ k : Fin 33, maskF k.val = (2 ^ k.val - 1) <<< (32 - k.val) := by decide +kernel
theorem and_mask (a k : Nat) (ha : a < 4294967296) (hk : k ≤ 32) : a &&& maskF k = a / 2 ^ (32 - k) * 2 ^ (32 - k) := by
  have e := maskF_shift ⟨k, by omega⟩
  simp only at e
  apply Nat.eq_of_testBit_eq
  intro i
  rw [Nat.testBit_and, e, Nat.testBit_shiftLeft, Nat.testBit_two_pow_sub_one, Nat.testBit_mul_two_pow, Nat.testBit_div_two_pow]
  by_cases h1 : 32 - k ≤ i
  · by_cases h2 : i - (32 - k) < k
    · simp [h1, h2]
    · have : a.testBit i = false := Nat.testBit_lt_two_pow (Nat.lt_of_lt_of_le ha (by have := Nat.pow_le_pow_right (n := 2) (by omega) (show 32 ≤ i by omega); simpa using this))
      simp [h1, h2, this]
  · simp [h1]
theorem and_mask_i (a k : Nat) (ha : a < 4294967296) (hk : k ≤ 32) : bits .and .u32 (a : Int) (maskF k : Int) = ((a / 2 ^ (32 - k) * 2 ^ (32 - k) : Nat) : Int) := by
  rw [u32_and_nat a (maskF k) ha (maskF_lt k), and_mask a k ha hk]
/-- the test on what is masked -/
theorem mask_test (a b n : Nat) (hz : b % 2 ^ (32 - n) = 0) : ((((a / 2 ^ (32 - n) * 2 ^ (32 - n) : Nat) : Int) == (b : Int)) : Bool) = decide (a / 2 ^ (32 - n) = b / 2 ^ (32 - n)) := by
  have hb : b / 2 ^ (32 - n) * 2 ^ (32 - n) = b := by
    have := Nat.div_add_mod b (2 ^ (32 - n))
    rw [hz, Nat.add_zero, Nat.mul_comm] at this
    exact this
  have hp : 0 < 2 ^ (32 - n) := Nat.two_pow_pos _
  by_cases h : a / 2 ^ (32 - n) = b / 2 ^ (32 - n)
  · rw [decide_eq_true h, h, hb]; simp
  · rw [decide_eq_false h, beq_eq_false_iff_ne]
    intro e
    have e' : a / 2 ^ (32 - n) * 2 ^ (32 - n) = b := by omega
    rw [← hb] at e'
    exact h (Nat.eq_of_mul_eq_mul_right hp (by rw [hb] at e' ⊢; exact e'))
theorem okP_bounds {a : Nat} {n : Int} (h : okP (a, n) = true) : ∃ k : Nat, n = k ∧ k ≤ 32 ∧ a % 2 ^ (32 - k) = 0 := by
  unfold okP at h
  have h' := of_decide_eq_true h
  simp only at h'
  obtain ⟨k, rfl⟩ := Int.eq_ofNat_of_zero_le h'.1
  exact ⟨k, rfl, by omega, by simpa using h'.2.2⟩

theorem bcell2 {w w1 : World} {a n : Value} {o : Obj} (hb : Below ((w.alloc (.cells #[a, n] 33)).alloc o).drew.heap.size ((w.alloc (.cells #[a, n] 33)).alloc o).drew w1) : w1.cell? ⟨w.heap.size, 0, none⟩ = some a ∧ w1.cell? ⟨w.heap.size, 1, none⟩ = some n := by
  have K := (((Blk.new w 33 #[a, n]).alloc o).drewN 1).below hb (by show w.heap.size < ((w.alloc _).alloc o).heap.size; simp; omega)
  have c0 := K.cell 0
  have c1 := K.cell 1
  simp only [List.getElem?_toArray, List.getElem?_cons_zero, List.getElem?_cons_succ] at c0 c1
  exact ⟨c0, c1⟩
theorem maybe1 (a : Nat) (n : Int) (b : Nat) (ha : a < 4294967296) (W : World) (h : Rd W W.heap.size (some ⟨b, 0, none⟩) ([(a, n)].flatMap pfxC)) :
    Calls Tryd.prog 55 #[.slice (some ⟨b, 0, none⟩) 1 1] W fun e w' => e = .returned (.bool (okP (a, n))) ∧ Below W.heap.size W w' :=
  (mayBe_any [(a, n)] _ 1 W h (by simpa using ha) (by simp)).mono fun e w' ⟨he, hb⟩ => ⟨by rw [he]; simp, hb⟩

set_option maxHeartbeats 1000000 in
theorem has_any (a : Nat) (n : Int) (x : Nat) (w : World) (ha : a < 4294967296) (hx : x < 4294967296) :
    Calls Tryd.prog 42 #[.agg #[.int .u32 a, .int .i64 n], .int .u32 x] w fun e w' => e = .returned (.bool (hasF (a, n) x)) ∧ Below w.heap.size w w' := by
  have HM := Lib.hid (maybe1 a n (w.heap.size + 1) ha (((w.alloc (.cells #[.int .u32 a, .int .i64 n] 33)).alloc (.cells #[.int .u32 a, .int .i64 n] 33)).drew) (by have := Rd.newL (w.alloc (.cells #[.int .u32 a, .int .i64 n] 33)) 33 #[.int .u32 a, .int .i64 n] (pfxC (a, n)) rfl; simpa using this.drew))
  cases hk : okP (a, n)
  · have hf : hasF (a, n) x = false := by unfold hasF; rw [hk]; rfl
    rw [hf]
    rw [hk] at HM
    clear hk hf
    go_enter Tryd.func42, Tryd.ntmps42
    go_wp2
    refine wp_region_any (by kernel_rfl) ?_
    try (change wpAny _ _ _ _ _ _ _ (World.drew _))
    refine wpAny_ready (rs := [0]) (by kernel_rfl) (by simp) ?_
    refine AllReady.cons rfl (fun K hK => ?_) AllReady.nil
    go_simp
    refine hK _ _ ?_
    clear hK K
    refine wpAny_ready (rs := [1]) (by kernel_rfl) (by simp) ?_
    refine AllReady.cons rfl (fun K hK => ?_) AllReady.nil
    go_simp
    refine hK _ _ ?_
    clear hK K
    refine wpAny_ready (rs := [2]) (by kernel_rfl) (by simp) ?_
    refine AllReady.cons rfl (fun K hK => ?_) AllReady.nil
    go_simp
    go_wp2_with (go_at_call 55; refine HM.out.mono ?_; rintro e w1 ⟨rfl, hb⟩)
    refine wpAny_ready (rs := [3]) (by kernel_rfl) (by simp) ?_
    refine AllReady.cons rfl (fun K hK => ?_) AllReady.nil
    go_simp
    refine hK _ _ ?_
    clear hK K
    refine wpAny_take (i := 4) (v := undef) rfl (by kernel_rfl) (by kernel_rfl) (by kernel_rfl) (fun _ _ _ h => h) (Or.inr ⟨by rfl, rfl⟩) ?_
    refine wpAny_take (i := 5) (v := undef) rfl (by kernel_rfl) (by kernel_rfl) (by kernel_rfl) (fun _ _ _ h => h) (Or.inr ⟨by rfl, rfl⟩) ?_
    refine wpAny_take (i := 6) (v := undef) rfl (by kernel_rfl) (by kernel_rfl) (by kernel_rfl) (fun _ _ _ h => h) (Or.inr ⟨by rfl, rfl⟩) ?_
    refine wpAny_take (i := 7) (v := undef) rfl (by kernel_rfl) (by kernel_rfl) (by kernel_rfl) (fun _ _ _ h => h) (Or.inr ⟨by rfl, rfl⟩) ?_
    refine wpAny_take (i := 8) (v := undef) rfl (by kernel_rfl) (by kernel_rfl) (by kernel_rfl) (fun _ _ _ h => h) (Or.inr ⟨by rfl, rfl⟩) ?_
    refine wpAny_take (i := 9) (v := undef) rfl (by kernel_rfl) (by kernel_rfl) (by kernel_rfl) (fun _ _ _ h => h) (Or.inr ⟨by rfl, rfl⟩) ?_
    refine wpAny_take (i := 10) (v := undef) rfl (by kernel_rfl) (by kernel_rfl) (by kernel_rfl) (fun _ _ _ h => h) (Or.inr ⟨by rfl, rfl⟩) ?_
    refine wpAny_take (i := 11) (v := undef) rfl (by kernel_rfl) (by kernel_rfl) (by kernel_rfl) (fun _ _ _ h => h) (Or.inr ⟨by rfl, rfl⟩) ?_
    refine wpAny_ready (rs := [12]) (by kernel_rfl) (by simp) ?_
    refine AllReady.cons rfl (fun K hK => ?_) AllReady.nil
    go_simp
    refine hK _ _ ?_
    clear hK K
    refine wpAny_ready (rs := [13]) (by kernel_rfl) (by simp) ?_
    refine AllReady.cons rfl (fun K hK => ?_) AllReady.nil
    go_simp
    refine hK _ _ ?_
    clear hK K
    refine wpAny_done (by kernel_rfl) ?_ _
    go_wp2
    go_ret
    exact ⟨rfl, bnext (below_drewN (balloc (balloc (Below.refl _ _) _) _) 1) hb⟩
  · obtain ⟨k, rfl, hk2, hz⟩ := okP_bounds hk
    have hf : hasF (a, (k : Int)) x = decide (x / 2 ^ (32 - k) = a / 2 ^ (32 - k)) := by unfold hasF; rw [hk]; simp
    have hbit := and_mask_i x k hx hk2
    have hcmp := mask_test x a k hz
    rw [hf]
    rw [hk] at HM
    clear hk hf hz
    generalize x / 2 ^ (32 - k) * 2 ^ (32 - k) = q at *
    generalize decide (x / 2 ^ (32 - k) = a / 2 ^ (32 - k)) = r at *
    have hk0 : (0 : Int) ≤ (k : Int) := by omega
    go_enter Tryd.func42, Tryd.ntmps42
    go_wp2
    go_region_with
      (first
      | (go_at_call 55; refine HM.out.mono ?_; rintro e w1 ⟨rfl, hb⟩; have hc := bcell2 hb)
      | (go_at_call 60; refine (mask_any _ _ hk0 (by omega)).mono ?_; rintro e w' ⟨rfl, rfl⟩))
    all_goals
      go_wp2
      go_ret
      exact ⟨rfl, bnext (below_drewN (balloc (balloc (Below.refl _ _) _) _) 1) hb⟩
end Go.Proofs.YtfgbliglgdkgpaaDoor
