/- MG: PfxH, PfxG, Fa4, Fa1, KindR, Fa2, Fa3: several texts in one. -/
import Derived.Test.YtlanfceilajifaaGreatDoorMB
import Derived.Test.YtlanfceilajifaaGreatDoorMD
import Derived.Test.YtlanfceilajifaaGreatDoorMA
/- prefix: Has, Stands; their references. -/
namespace Go.Proofs.YtlanfceilajifaaGreatDoor
set_option linter.unusedVariables false
set_option linter.unusedSimpArgs false
open Go.RowKit
set_option maxRecDepth 100000

/-- is an address in a prefix that may be? -/
def hasF (p : Nat × Int) (a : Nat) : Bool := okP p && decide (a / 2 ^ (32 - p.2.toNat) = p.1 / 2 ^ (32 - p.2.toNat))
theorem maskF_shift : ∀ k : Fin 33, maskF k.val = (2 ^ k.val - 1) <<< (32 - k.val) := by decide +kernel
theorem and_mask (a k : Nat) (ha : a < 4294967296) (hk : k ≤ 32) : a &&& maskF k = a / 2 ^ (32 - k) * 2 ^ (32 - k) := by
  have e := maskF_shift ⟨k, by omega⟩
  simp only at e
  apply Nat.eq_of_testBit_eq
  intro i
  rw [Nat.testBit_and, e, Nat.testBit_shiftLeft, Nat.testBit_two_pow_sub_one, Nat.testBit_mul_two_pow, Nat.testBit_div_two_pow]
  by_cases h1 : 32 - k ≤ i
  · by_cases h2 : i - (32 - k) < k
    · simp [h1, h2]
    · have : a.testBit i = false := Nat.testBit_lt_two_pow (Nat.lt_of_lt_of_le ha (by have := Nat.pow_le_pow_right (n := 2) (by omega) (show 32 ≤ i by omega); simpa using this))
      simp [h1, h2, this]
  · simp [h1]
theorem and_mask_i (a k : Nat) (ha : a < 4294967296) (hk : k ≤ 32) : bits .and .u32 (a : Int) (maskF k : Int) = ((a / 2 ^ (32 - k) * 2 ^ (32 - k) : Nat) : Int) := by
  rw [u32_and_nat a (maskF k) ha (maskF_lt k), and_mask a k ha hk]
/-- the test on what is masked -/
theorem mask_test (a b n : Nat) (hz : b % 2 ^ (32 - n) = 0) : ((((a / 2 ^ (32 - n) * 2 ^ (32 - n) : Nat) : Int) == (b : Int)) : Bool) = decide (a / 2 ^ (32 - n) = b / 2 ^ (32 - n)) := by
  have hb : b / 2 ^ (32 - n) * 2 ^ (32 - n) = b := by
    have := Nat.div_add_mod b (2 ^ (32 - n))
    rw [hz, Nat.add_zero, Nat.mul_comm] at this
    exact this
  have hp : 0 < 2 ^ (32 - n) := Nat.two_pow_pos _
  by_cases h : a / 2 ^ (32 - n) = b / 2 ^ (32 - n)
  · rw [decide_eq_true h, h, hb]; simp
  · rw [decide_eq_false h, beq_eq_false_iff_ne]
    intro e
    have e' : a / 2 ^ (32 - n) * 2 ^ (32 - n) = b := by omega
    rw [← hb] at e'
    exact h (Nat.eq_of_mul_eq_mul_right hp (by rw [hb] at e' ⊢; exact e'))
theorem okP_bounds {a : Nat} {n : Int} (h : okP (a, n) = true) : ∃ k : Nat, n = k ∧ k ≤ 32 ∧ a % 2 ^ (32 - k) = 0 := by
  unfold okP at h
  have h' := of_decide_eq_true h
  simp only at h'
  obtain ⟨k, rfl⟩ := Int.eq_ofNat_of_zero_le h'.1
  exact ⟨k, rfl, by omega, by simpa using h'.2.2⟩

theorem bcell2 {w w1 : World} {a n : Value} {o : Obj} (hb : Below ((w.alloc (.cells #[a, n] 86)).alloc o).drew.heap.size ((w.alloc (.cells #[a, n] 86)).alloc o).drew w1) : w1.cell? ⟨w.heap.size, 0, none⟩ = some a ∧ w1.cell? ⟨w.heap.size, 1, none⟩ = some n := by
  have K := (((Blk.new w 86 #[a, n]).alloc o).drewN 1).below hb (by show w.heap.size < ((w.alloc _).alloc o).heap.size; simp; omega)
  have c0 := K.cell 0
  have c1 := K.cell 1
  simp only [List.getElem?_toArray, List.getElem?_cons_zero, List.getElem?_cons_succ] at c0 c1
  exact ⟨c0, c1⟩
theorem maybe1 (a : Nat) (n : Int) (b : Nat) (ha : a < 4294967296) (W : World) (h : Rd W W.heap.size (some ⟨b, 0, none⟩) ([(a, n)].flatMap pfxC)) :
    Calls Tryz.prog 79 #[.slice (some ⟨b, 0, none⟩) 1 1] W fun e w' => e = .returned (.bool (okP (a, n))) ∧ Below W.heap.size W w' :=
  (mayBe_any [(a, n)] _ 1 W h (by simpa using ha) (by simp)).mono fun e w' ⟨he, hb⟩ => ⟨by rw [he]; simp, hb⟩

set_option maxHeartbeats 1000000 in
theorem phas_any (a : Nat) (n : Int) (x : Nat) (w : World) (ha : a < 4294967296) (hx : x < 4294967296) :
    Calls Tryz.prog 76 #[.agg #[.int .u32 a, .int .i64 n], .int .u32 x] w fun e w' => e = .returned (.bool (hasF (a, n) x)) ∧ Below w.heap.size w w' := by
  have HM := Lib.hid (maybe1 a n (w.heap.size + 1) ha (((w.alloc (.cells #[.int .u32 a, .int .i64 n] 86)).alloc (.cells #[.int .u32 a, .int .i64 n] 86)).drew) (by have := Rd.newL (w.alloc (.cells #[.int .u32 a, .int .i64 n] 86)) 86 #[.int .u32 a, .int .i64 n] (pfxC (a, n)) rfl; simpa using this.drew))
  cases hk : okP (a, n)
  · have hf : hasF (a, n) x = false := by unfold hasF; rw [hk]; rfl
    rw [hf]
    rw [hk] at HM
    clear hk hf
    go_enter Tryz.func76, Tryz.ntmps76
    go_wp2
    refine wp_region_any (by kernel_rfl) ?_
    try (change wpAny _ _ _ _ _ _ _ (World.drew _))
    refine wpAny_ready (rs := [0]) (by kernel_rfl) (by simp) ?_
    refine AllReady.cons rfl (fun K hK => ?_) AllReady.nil
    go_simp
    refine hK _ _ ?_
    clear hK K
    refine wpAny_ready (rs := [1]) (by kernel_rfl) (by simp) ?_
    refine AllReady.cons rfl (fun K hK => ?_) AllReady.nil
    go_simp
    refine hK _ _ ?_
    clear hK K
    refine wpAny_ready (rs := [2]) (by kernel_rfl) (by simp) ?_
    refine AllReady.cons rfl (fun K hK => ?_) AllReady.nil
    go_simp
    go_wp2_with (go_at_call 79; refine HM.out.mono ?_; rintro e w1 ⟨rfl, hb⟩)
    refine wpAny_ready (rs := [3]) (by kernel_rfl) (by simp) ?_
    refine AllReady.cons rfl (fun K hK => ?_) AllReady.nil
    go_simp
    refine hK _ _ ?_
    clear hK K
    refine wpAny_take (i := 4) (v := undef) rfl (by kernel_rfl) (by kernel_rfl) (by kernel_rfl) (fun _ _ _ h => h) (Or.inr ⟨by rfl, rfl⟩) ?_
    refine wpAny_take (i := 5) (v := undef) rfl (by kernel_rfl) (by kernel_rfl) (by kernel_rfl) (fun _ _ _ h => h) (Or.inr ⟨by rfl, rfl⟩) ?_
    refine wpAny_take (i := 6) (v := undef) rfl (by kernel_rfl) (by kernel_rfl) (by kernel_rfl) (fun _ _ _ h => h) (Or.inr ⟨by rfl, rfl⟩) ?_
    refine wpAny_take (i := 7) (v := undef) rfl (by kernel_rfl) (by kernel_rfl) (by kernel_rfl) (fun _ _ _ h => h) (Or.inr ⟨by rfl, rfl⟩) ?_
    refine wpAny_take (i := 8) (v := undef) rfl (by kernel_rfl) (by kernel_rfl) (by kernel_rfl) (fun _ _ _ h => h) (Or.inr ⟨by rfl, rfl⟩) ?_
    refine wpAny_take (i := 9) (v := undef) rfl (by kernel_rfl) (by kernel_rfl) (by kernel_rfl) (fun _ _ _ h => h) (Or.inr ⟨by rfl, rfl⟩) ?_
    refine wpAny_take (i := 10) (v := undef) rfl (by kernel_rfl) (by kernel_rfl) (by kernel_rfl) (fun _ _ _ h => h) (Or.inr ⟨by rfl, rfl⟩) ?_
    refine wpAny_take (i := 11) (v := undef) rfl (by kernel_rfl) (by kernel_rfl) (by kernel_rfl) (fun _ _ _ h => h) (Or.inr ⟨by rfl, rfl⟩) ?_
    refine wpAny_ready (rs := [12]) (by kernel_rfl) (by simp) ?_
    refine AllReady.cons rfl (fun K hK => ?_) AllReady.nil
    go_simp
    refine hK _ _ ?_
    clear hK K
    refine wpAny_ready (rs := [13]) (by kernel_rfl) (by simp) ?_
    refine AllReady.cons rfl (fun K hK => ?_) AllReady.nil
    go_simp
    refine hK _ _ ?_
    clear hK K
    refine wpAny_done (by kernel_rfl) ?_ _
    go_wp2
    go_ret
    exact ⟨rfl, bnext (below_drewN (balloc (balloc (Below.refl _ _) _) _) 1) hb⟩
  · obtain ⟨k, rfl, hk2, hz⟩ := okP_bounds hk
    have hf : hasF (a, (k : Int)) x = decide (x / 2 ^ (32 - k) = a / 2 ^ (32 - k)) := by unfold hasF; rw [hk]; simp
    have hbit := and_mask_i x k hx hk2
    have hcmp := mask_test x a k hz
    rw [hf]
    rw [hk] at HM
    clear hk hf hz
    generalize x / 2 ^ (32 - k) * 2 ^ (32 - k) = q at *
    generalize decide (x / 2 ^ (32 - k) = a / 2 ^ (32 - k)) = r at *
    have hk0 : (0 : Int) ≤ (k : Int) := by omega
    go_enter Tryz.func76, Tryz.ntmps76
    go_wp2
    go_region_with
      (first
      | (go_at_call 79; refine HM.out.mono ?_; rintro e w1 ⟨rfl, hb⟩; have hc := bcell2 hb)
      | (go_at_call 101; refine (mask_any _ _ hk0 (by omega)).mono ?_; rintro e w' ⟨rfl, rfl⟩))
    all_goals
      go_wp2
      go_ret
      exact ⟨rfl, bnext (below_drewN (balloc (balloc (Below.refl _ _) _) _) 1) hb⟩
end Go.Proofs.YtlanfceilajifaaGreatDoor
/- the document's Has. -/
namespace Go.Proofs.YtlanfceilajifaaGreatDoor
set_option linter.unusedVariables false
set_option linter.unusedSimpArgs false
open Go.RowKit
set_option maxRecDepth 100000
theorem bit_step (a i : Nat) (hi : i < 32) : a / 2 ^ (31 - i) = 2 * (a / 2 ^ (32 - i)) + bitF a i := by
  unfold bitF
  have e : 2 ^ (32 - i) = 2 ^ (31 - i) * 2 := by rw [← Nat.pow_succ]; congr 1; omega
  rw [e, ← Nat.div_div_eq_div_mul]
  omega
theorem high_up {a b i n : Nat} (hi : i < n) (hn : n ≤ 32) (h : a / 2 ^ (32 - n) = b / 2 ^ (32 - n)) : a / 2 ^ (31 - i) = b / 2 ^ (31 - i) := by
  have e : 2 ^ (31 - i) = 2 ^ (32 - n) * 2 ^ (n - 1 - i) := by rw [← Nat.pow_add]; congr 1; omega
  rw [e, ← Nat.div_div_eq_div_mul, ← Nat.div_div_eq_div_mul, h]
theorem bit_same {a b i : Nat} (hi : i < 32) (h : a / 2 ^ (32 - i) = b / 2 ^ (32 - i)) : bitF a i = bitF b i ↔ a / 2 ^ (32 - (i + 1)) = b / 2 ^ (32 - (i + 1)) := by
  have e : 32 - (i + 1) = 31 - i := by omega
  rw [e, bit_step a i hi, bit_step b i hi, h]
  omega
set_option maxHeartbeats 1000000 in
theorem refHas_any (a : Nat) (n : Int) (x : Nat) (w : World) (ha : a < 4294967296) (hx : x < 4294967296) :
    Calls Tryz.prog 73 #[.agg #[.int .u32 a, .int .i64 n], .int .u32 x] w fun e w' => e = .returned (.bool (hasF (a, n) x)) ∧ Below w.heap.size w w' := by
  have HR := Lib.hid (fun W => refRight_any a n W ha)
  cases hk : okP (a, n)
  · have hf : hasF (a, n) x = false := by unfold hasF; rw [hk]; rfl
    rw [hf]
    rw [hk] at HR
    clear hk hf
    go_enter Tryz.func73, Tryz.ntmps73
    go_wp2_with (go_at_call 55; refine (HR.out _).mono ?_; rintro e w1 ⟨rfl, hb⟩)
    go_ret
    exact ⟨rfl, bnext (balloc (Below.refl _ _) _) hb⟩
  · obtain ⟨k, rfl, hk2, hz⟩ := okP_bounds hk
    have hf : hasF (a, (k : Int)) x = decide (x / 2 ^ (32 - k) = a / 2 ^ (32 - k)) := by unfold hasF; rw [hk]; simp
    have HF := Lib.hid hf
    rw [hk] at HR
    clear hk hf hz
    go_enter Tryz.func73, Tryz.ntmps73
    go_wp2_with fail
    refine (HR.out _).mono ?_
    rintro e w1 ⟨rfl, b1⟩
    have K1 := (Blk.new w 86 #[.int .u32 a, .int .i64 k]).below b1 (by simp)
    have c1 := bnext (balloc (Below.refl _ w) _) b1
    have d0 := (K1).cell 0
    have d1 := (K1).cell 1
    simp only [List.getElem?_toArray, List.getElem?_cons_zero, List.getElem?_cons_succ] at d0 d1
    clear b1
    go_wp2_with fail
    go_loop [5] (fun i => ∃ j : Nat, j ≤ k ∧ i = .int .i64 j ∧ x / 2 ^ (32 - j) = a / 2 ^ (32 - j)) (fun i => k - (intOf i).toNat)
    case atStart => exact ⟨0, Nat.zero_le _, rfl, by rw [Nat.div_eq_of_lt (by simpa using hx), Nat.div_eq_of_lt (by simpa using ha)]⟩
    case round =>
      obtain ⟨j, hj, rfl, hsame⟩ := hrel
      by_cases hlt : j < k
      · have B1 := Lib.hid (fun W => bit_any a j W ha (by omega) (by omega))
        have B2 := Lib.hid (fun W => bit_any x j W hx (by omega) (by omega))
        have HS := Lib.hid (bit_same (a := x) (b := a) (i := j) (by omega) hsame)
        rw [Int.toNat_natCast] at B1 B2
        clear hsame
        by_cases hq : bitF x j = bitF a j
        · have HQ := Lib.hid hq
          rw [hq] at B2
          have hne : (((bitF a j : Nat) : Int) != ((bitF a j : Nat) : Int)) = false := by simp
          clear hq
          generalize hbj : bitF a j = bj at *
          have HBJ := Lib.hid hbj
          clear hbj
          go_wp2_with fail
          refine (B1.out _).mono ?_
          rintro e w' ⟨rfl, rfl⟩
          go_wp2_with fail
          refine (B2.out _).mono ?_
          rintro e w' ⟨rfl, rfl⟩
          go_wp2_with fail
          go_round
          case rel => exact ⟨j + 1, by omega, by go_num, HS.out.1 (by rw [HQ.out]; first | done | exact HBJ.out.symm | rfl)⟩
          case measure => simp [intOf]; omega
        · have HN := Lib.hid (show hasF (a, (k : Int)) x = false from by
            rw [HF.out]
            refine decide_eq_false (fun h => hq (HS.out.2 ?_))
            have e : 32 - (j + 1) = 31 - j := by omega
            rw [e]
            exact high_up hlt hk2 h)
          have hne : (((bitF a j : Nat) : Int) != ((bitF x j : Nat) : Int)) = true := by rw [bne_iff_ne]; intro h; exact hq (by omega)
          clear hq
          generalize bitF a j = bj at *
          generalize bitF x j = bx at *
          go_wp2_with fail
          refine (B1.out _).mono ?_
          rintro e w' ⟨rfl, rfl⟩
          go_wp2_with fail
          refine (B2.out _).mono ?_
          rintro e w' ⟨rfl, rfl⟩
          go_wp2_with fail
          go_ret
          rw [HN.out]
          exact ⟨rfl, c1⟩
      · obtain rfl : j = k := by omega
        have HN := Lib.hid (show hasF (a, (j : Int)) x = true from by rw [HF.out]; exact decide_eq_true hsame)
        clear hsame
        go_wp2
        go_ret
        rw [HN.out]
        exact ⟨rfl, c1⟩
end Go.Proofs.YtlanfceilajifaaGreatDoor
/- prefix: Stands; the document's. -/
namespace Go.Proofs.YtlanfceilajifaaGreatDoor
set_option linter.unusedVariables false
set_option linter.unusedSimpArgs false
open Go.RowKit
set_option maxRecDepth 100000
/-- what prefix.rels holds -/
def RelsAt (w : World) : Prop := w.cell? ⟨0, 0, none⟩ = some (.int .i64 4) ∧ w.cell? ⟨0, 1, none⟩ = some (.int .i64 2) ∧ w.cell? ⟨0, 2, none⟩ = some (.int .i64 3) ∧ w.cell? ⟨0, 3, none⟩ = some (.int .i64 1)
theorem RelsAt.below {w w' : World} (h : RelsAt w) (hb : Below w.heap.size w w') : RelsAt w' :=
  ⟨(hb.cell (cell_lt h.1)).trans h.1, (hb.cell (cell_lt h.2.1)).trans h.2.1, (hb.cell (cell_lt h.2.2.1)).trans h.2.2.1, (hb.cell (cell_lt h.2.2.2)).trans h.2.2.2⟩
theorem RelsAt.drewN {w : World} (h : RelsAt w) (n : Nat) : RelsAt (w.drewN n) := h
/-- is the second one within the first one, or the same? -/
def hldF (p q : Nat × Int) : Bool := decide (p.2 ≤ q.2) && hasF p q.1
def standsF (p q : Nat × Int) : Nat := if hldF p q then (if hldF q p then 1 else 3) else (if hldF q p then 2 else 4)

set_option maxHeartbeats 1000000 in
theorem holds_any (a k b m : Nat) (w : World) (hk : k ≤ 32) (hz : a % 2 ^ (32 - k) = 0) (hb : b < 4294967296) :
    Calls Tryz.prog 80 #[.agg #[.int .u32 a, .int .i64 k], .agg #[.int .u32 b, .int .i64 m]] w fun e w' => e = .returned (.int .i64 (if hldF (a, (k : Int)) (b, (m : Int)) then 1 else 0)) ∧ Below w.heap.size w w' := by
  have hk0 : (0 : Int) ≤ (k : Int) := by omega
  have hok : okP (a, (k : Int)) = true := by simp only [okP, Int.toNat_natCast]; exact decide_eq_true ⟨by omega, by omega, hz⟩
  by_cases hle : k ≤ m
  · have hf : hldF (a, (k : Int)) (b, (m : Int)) = decide (b / 2 ^ (32 - k) = a / 2 ^ (32 - k)) := by
      unfold hldF hasF
      rw [hok]
      simp [hle]
    have hbit := and_mask_i b k hb hk
    have hcmp := mask_test b a k hz
    have hge : decide (k ≤ m) = true := decide_eq_true hle
    rw [hf]
    clear hok hz hf hle
    generalize b / 2 ^ (32 - k) * 2 ^ (32 - k) = q at *
    cases hr : decide (b / 2 ^ (32 - k) = a / 2 ^ (32 - k))
    all_goals
      rw [hr] at hcmp
      clear hr
      simp only [Bool.false_eq_true, if_true, if_false]
      go_enter Tryz.func80, Tryz.ntmps80
      go_wp2
      go_quiet ((go_at_call 101; exact q_same (mask_any _ _ (by omega) (by omega))))
      go_wp2
      go_ret
      exact ⟨rfl, below_drewN (balloc (balloc (Below.refl _ _) _) _) _⟩
  · have hf : hldF (a, (k : Int)) (b, (m : Int)) = false := by
      unfold hldF
      simp [hle]
    have hge : decide (k ≤ m) = false := decide_eq_false hle
    rw [hf]
    clear hok hz hf hle
    simp only [Bool.false_eq_true, if_false]
    go_enter Tryz.func80, Tryz.ntmps80
    go_wp2
    go_quiet (fail)
    go_wp2
    go_ret
    exact ⟨rfl, below_drewN (balloc (balloc (Below.refl _ _) _) _) _⟩

/-- the cells that Stands reads -/
abbrev StS (g a k b m : Nat) (w : World) : Prop := w.cell? ⟨g, 0, none⟩ = some (.int .u32 a) ∧ w.cell? ⟨g, 1, none⟩ = some (.int .i64 k) ∧ w.cell? ⟨g + 1, 0, none⟩ = some (.int .u32 b) ∧ w.cell? ⟨g + 1, 1, none⟩ = some (.int .i64 m) ∧ w.cell? ⟨0, 0, none⟩ = some (.int .i64 4) ∧ w.cell? ⟨0, 1, none⟩ = some (.int .i64 2) ∧ w.cell? ⟨0, 2, none⟩ = some (.int .i64 3) ∧ w.cell? ⟨0, 3, none⟩ = some (.int .i64 1)
theorem StS.below {g a k b m : Nat} {w w' : World} (s : StS g a k b m w) (h : Below w.heap.size w w') : StS g a k b m w' := by
  obtain ⟨h0, h1, h2, h3, h4, h5, h6, h7⟩ := s
  exact ⟨(h.cell (cell_lt h0)).trans h0, (h.cell (cell_lt h1)).trans h1, (h.cell (cell_lt h2)).trans h2, (h.cell (cell_lt h3)).trans h3, (h.cell (cell_lt h4)).trans h4, (h.cell (cell_lt h5)).trans h5, (h.cell (cell_lt h6)).trans h6, (h.cell (cell_lt h7)).trans h7⟩
theorem maybe2 (a : Nat) (n : Int) (b : Nat) (m : Int) (g : Nat) (ha : a < 4294967296) (hb : b < 4294967296) (W : World) (h : Rd W W.heap.size (some ⟨g, 0, none⟩) ([(a, n), (b, m)].flatMap pfxC)) :
    Calls Tryz.prog 79 #[.slice (some ⟨g, 0, none⟩) 2 2] W fun e w' => e = .returned (.bool (okP (a, n) && okP (b, m))) ∧ Below W.heap.size W w' :=
  (mayBe_any [(a, n), (b, m)] _ 2 W h (by simpa using ⟨ha, hb⟩) (by simp)).mono fun e w' ⟨he, hb⟩ => ⟨by rw [he]; simp, hb⟩

set_option maxHeartbeats 4000000 in
theorem stands_any (a k b m : Nat) (w : World) (ha : a < 4294967296) (hb : b < 4294967296) (hk : k ≤ 32) (hm : m ≤ 32) (hz : a % 2 ^ (32 - k) = 0) (hy : b % 2 ^ (32 - m) = 0) (hR : RelsAt w) :
    Calls Tryz.prog 40 #[.agg #[.int .u32 a, .int .i64 k], .agg #[.int .u32 b, .int .i64 m]] w fun e w' => e = .returned (.tuple #[.int .i64 (standsF (a, (k : Int)) (b, (m : Int))), .int .i64 0]) ∧ Below w.heap.size w w' := by
  have HM := Lib.hid (fun W h => maybe2 a k b m (w.heap.size + 2) ha hb W h)
  rw [show okP (a, (k : Int)) = true by simp only [okP, Int.toNat_natCast]; exact decide_eq_true ⟨by omega, by omega, hz⟩, show okP (b, (m : Int)) = true by simp only [okP, Int.toNat_natCast]; exact decide_eq_true ⟨by omega, by omega, hy⟩] at HM
  have H1 := Lib.hid (fun W => holds_any a k b m W hk hz hb)
  have H2 := Lib.hid (fun W => holds_any b m a k W hm hy ha)
  have HB := Lib.hid (show Below w.heap.size w (((w.alloc (.cells #[.int .u32 a, .int .i64 k] 86)).alloc (.cells #[.int .u32 b, .int .i64 m] 86)).alloc (.cells #[.int .u32 a, .int .i64 k, .int .u32 b, .int .i64 m] 86)) from balloc (balloc (balloc (Below.refl _ _) _) _) _)
  have HR := Lib.hid hR
  have X1 := Lib.hid (((Blk.new w 86 #[.int .u32 a, .int .i64 k]).alloc (.cells #[.int .u32 b, .int .i64 m] 86)).alloc (.cells #[.int .u32 a, .int .i64 k, .int .u32 b, .int .i64 m] 86))
  have x2 := (Blk.new (w.alloc (.cells #[.int .u32 a, .int .i64 k] 86)) 86 #[.int .u32 b, .int .i64 m]).alloc (.cells #[.int .u32 a, .int .i64 k, .int .u32 b, .int .i64 m] 86)
  rw [World.size_alloc] at x2
  have X2 := Lib.hid x2
  clear hR x2 hz hy
  unfold standsF
  cases h1 : hldF (a, (k : Int)) (b, (m : Int)) <;> cases h2 : hldF (b, (m : Int)) (a, (k : Int))
  all_goals
    rw [h1] at H1
    rw [h2] at H2
    simp only [Bool.false_eq_true, if_true, if_false] at H1 H2 ⊢
    clear h1 h2
    go_enter Tryz.func40, Tryz.ntmps40
    go_wp2_with fail
    refine scope_fwd 0 rfl ?_
    go_wp2_with fail
    refine (HM.out _ ?_).mono ?_
    · have := Rd.newL ((w.alloc (.cells #[.int .u32 a, .int .i64 k] 86)).alloc (.cells #[.int .u32 b, .int .i64 m] 86)) 86 #[.int .u32 a, .int .i64 k, .int .u32 b, .int .i64 m] ([(a, (k : Int)), (b, (m : Int))].flatMap pfxC) rfl
      simpa using this
    rintro e w1 ⟨rfl, b1⟩
    have K1 := X1.out.below b1 X1.out.lt
    have K2 := X2.out.below b1 X2.out.lt
    have c1 := bnext HB.out b1
    have r1 := HR.out.below c1
    obtain ⟨g0, g1, g2, g3⟩ := r1
    have gl := cell_lt g0
    have d0 := (K1).cell 0
    have d1 := (K1).cell 1
    simp only [List.getElem?_toArray, List.getElem?_cons_zero, List.getElem?_cons_succ] at d0 d1
    have f0 := (K2).cell 0
    have f1 := (K2).cell 1
    simp only [List.getElem?_toArray, List.getElem?_cons_zero, List.getElem?_cons_succ] at f0 f1
    have s0 : StS w.heap.size a k b m w1.drew := ⟨d0, d1, f0, f1, g0, g1, g2, g3⟩
    clear b1 K1 K2 d0 d1 g1 g2 g3
    go_wp2_with fail
    go_region_held3 (fun w' => StS w.heap.size a k b m w') (first | exact s0 | exact sb | exact sa)
      (first
      | (go_at_call 80; (with_reducible refine (H1.out w1.drew).mono ?_); rintro e wa ⟨rfl, ba⟩; have sa := s0.below ba)
      | (go_at_call 80; (with_reducible refine (H2.out w1.drew).mono ?_); rintro e wa ⟨rfl, ba⟩; have sa := s0.below ba)
      | (go_at_call 80; (with_reducible refine (H1.out wa).mono ?_); rintro e wb ⟨rfl, bb⟩; have sb := sa.below bb)
      | (go_at_call 80; (with_reducible refine (H2.out wa).mono ?_); rintro e wb ⟨rfl, bb⟩; have sb := sa.below bb))
    all_goals
      go_wp2_with fail
      rw [jump_ret]
      go_ret2
      exact ⟨rfl, bnext (bnext (below_drewN c1 1) ba) bb⟩
end Go.Proofs.YtlanfceilajifaaGreatDoor
/- face: where a net ends, which faces may be; the document's. -/
namespace Go.Proofs.YtlanfceilajifaaGreatDoor
set_option linter.unusedVariables false
set_option linter.unusedSimpArgs false
open Go.RowKit
set_option maxRecDepth 100000

/-- a face -/
structure Fc where
  na : Nat
  nl : Int
  ad : Nat
  up : Bool
deriving DecidableEq
def Fc.net (f : Fc) : Nat × Int := (f.na, f.nl)
def fcL (f : Fc) : List Value := [.int .u32 f.na, .int .i64 f.nl, .int .u32 f.ad, .bool f.up]
def fcA (f : Fc) : Array Value := #[.int .u32 f.na, .int .i64 f.nl, .int .u32 f.ad, .bool f.up]
/-- the numbers of a face fit -/
def fitF (f : Fc) : Prop := f.na < 4294967296 ∧ f.ad < 4294967296
theorem fcL_len (f : Fc) : (fcL f).length = 4 := rfl
theorem fcL_one (f : Fc) : ∀ u ∈ fcL f, u.oneCell' = true := by
  intro u hu
  simp [fcL] at hu
  rcases hu with rfl | rfl | rfl | rfl <;> rfl
def fcC (l : List Fc) : List Value := l.flatMap fcL
theorem fcC_len (l : List Fc) : (fcC l).length = l.length * 4 := rows_len fcL_len l
theorem fcC_one (l : List Fc) : ∀ u ∈ fcC l, u.oneCell' = true := rows_one fcL_one l
theorem fc_at {w : World} {B : Nat} {A : Option Addr} {l : List Fc} (h : Rd w B A (fcC l)) {i : Nat} {x : Fc} (hi : l[i]? = some x) :
    ∃ b off, A = some ⟨b, off, none⟩ ∧ b < B ∧ w.cell? ⟨b, off + i * 4, none⟩ = some (.int .u32 x.na) ∧ w.cell? ⟨b, off + i * 4 + 1, none⟩ = some (.int .i64 x.nl) ∧ w.cell? ⟨b, off + i * 4 + 2, none⟩ = some (.int .u32 x.ad) ∧ w.cell? ⟨b, off + i * 4 + 3, none⟩ = some (.bool x.up) := by
  obtain ⟨b, off, e, hb, hc⟩ := rows_at fcL_len (by omega) h hi
  refine ⟨b, off, e, hb, ?_, ?_, ?_, ?_⟩
  · simpa [Nat.add_assoc] using hc 0 _ rfl
  · simpa [Nat.add_assoc] using hc 1 _ rfl
  · simpa [Nat.add_assoc] using hc 2 _ rfl
  · simpa [Nat.add_assoc] using hc 3 _ rfl

/-- is an address the first or the last one of a net? -/
def endF (p : Nat × Int) (a : Nat) : Bool := decide (a = p.1) || decide (a = p.1 + (2 ^ (32 - p.2.toNat) - 1))
/-- may a face be? -/
def okF (f : Fc) : Bool := okP f.net && decide (1 ≤ f.nl) && decide (f.nl ≤ 30) && hasF f.net f.ad && !endF f.net f.ad && decide (kindF f.ad = 6)

theorem or_low (a j : Nat) (ha : a < 4294967296) (hj : j ≤ 32) (hz : a % 2 ^ j = 0) : a ||| (2 ^ j - 1) = a + (2 ^ j - 1) := by
  have hb : a / 2 ^ j * 2 ^ j = a := by
    have := Nat.div_add_mod a (2 ^ j)
    rw [hz, Nat.add_zero, Nat.mul_comm] at this
    exact this
  have hp : 0 < 2 ^ j := Nat.two_pow_pos _
  have := Nat.shiftLeft_add_eq_or_of_lt (a := a / 2 ^ j) (b := 2 ^ j - 1) (i := j) (by omega)
  rw [Nat.shiftLeft_eq, hb] at this
  exact this.symm
theorem mask_not (k : Nat) (hk : k ≤ 32) : 4294967295 - maskF k = 2 ^ (32 - k) - 1 := by
  have h1 : 2 ^ (32 - k) ≤ 2 ^ 32 := Nat.pow_le_pow_right (by omega) (by omega)
  have h2 : 0 < 2 ^ (32 - k) := Nat.two_pow_pos _
  unfold maskF; omega
theorem low_lt (k : Nat) : 2 ^ (32 - k) - 1 < 4294967296 := by
  have h1 : 2 ^ (32 - k) ≤ 2 ^ 32 := Nat.pow_le_pow_right (by omega) (by omega)
  omega
theorem end_last (a k : Nat) (ha : a < 4294967296) (hk : k ≤ 32) (hz : a % 2 ^ (32 - k) = 0) : bits .or .u32 (a : Int) (bits .xor .u32 IntKind.u32.max (maskF k : Int)) = ((a + (2 ^ (32 - k) - 1) : Nat) : Int) := by
  rw [not_u32 _ (maskF_lt k)]
  have e : (4294967295 : Int) - (maskF k : Int) = ((2 ^ (32 - k) - 1 : Nat) : Int) := by
    have := mask_not k hk
    have := maskF_lt k
    omega
  rw [e, u32_or_nat a _ ha (low_lt k), or_low a (32 - k) ha (by omega) hz]

set_option maxHeartbeats 400000 in
theorem ends_any (a k : Nat) (w : World) (ha : a < 4294967296) (hk : k ≤ 32) (hz : a % 2 ^ (32 - k) = 0) :
    Calls Tryz.prog 102 #[.agg #[.int .u32 a, .int .i64 k]] w fun e w' => e = .returned (.agg #[.int .u32 a, .int .u32 ((a + (2 ^ (32 - k) - 1) : Nat) : Int)]) ∧ Below w.heap.size w w' := by
  have HL := Lib.hid (end_last a k ha hk hz)
  have hk0 : (0 : Int) ≤ (k : Int) := by omega
  have hsg : IntKind.u32.signed = false := rfl
  have hnm := not_u32 (maskF k) (maskF_lt k)
  rw [hnm] at HL
  have hbt := HL.out
  generalize a + (2 ^ (32 - k) - 1) = z at *
  clear hz HL
  go_enter Tryz.func102, Tryz.ntmps102
  go_wp2_with (go_at_call 119; refine (Mask_any _ _ hk0 (by omega)).mono ?_; rw [Int.toNat_natCast]; rintro e w' ⟨rfl, rfl⟩)
  refine bodyPost_ret (v := .agg #[.int .u32 a, .int .u32 (z : Nat)]) (by simp [results, Tryz.results102, go_sem]) rfl ⟨rfl, by go_grown⟩

set_option maxHeartbeats 400000 in
theorem isEnd_any (a k x : Nat) (w : World) (ha : a < 4294967296) (hk : k ≤ 32) (hz : a % 2 ^ (32 - k) = 0) :
    Calls Tryz.prog 77 #[.agg #[.int .u32 a, .int .i64 k], .int .u32 x] w fun e w' => e = .returned (.bool (endF (a, (k : Int)) x)) ∧ Below w.heap.size w w' := by
  have i0 : ∀ (w : World) (x0 x1 : Value), (Instr.index 185 (.agg #[x0, x1]) (.int .i64 0)).run Tryz.prog w = .ok x0 w := fun _ _ _ => by kernel_rfl
  have i1 : ∀ (w : World) (x0 x1 : Value), (Instr.index 185 (.agg #[x0, x1]) (.int .i64 1)).run Tryz.prog w = .ok x1 w := fun _ _ _ => by kernel_rfl
  have HE := Lib.hid (fun W => ends_any a k W ha hk hz)
  have he : endF (a, (k : Int)) x = (decide (x = a) || decide (x = a + (2 ^ (32 - k) - 1))) := by simp [endF]
  rw [he]
  clear he hz
  generalize a + (2 ^ (32 - k) - 1) = z at *
  by_cases h1 : x = a
  · have hc : ((a : Int) == (x : Int)) = true := by rw [beq_iff_eq]; omega
    rw [show (decide (x = a) || decide (x = z)) = true by simp [h1]]
    clear h1
    go_enter Tryz.func77, Tryz.ntmps77
    go_wp2_with (go_at_call 102; refine (HE.out _).mono ?_; rintro e w1 ⟨rfl, hb⟩)
    refine wp_loop_rounds 1 ?_
    rw [rounds_succ]; go_wp2
    go_ret
    exact ⟨rfl, bnext (balloc (Below.refl _ _) _) hb⟩
  · have hc : ((a : Int) == (x : Int)) = false := by rw [beq_eq_false_iff_ne]; omega
    by_cases h2 : x = z
    · have hc2 : ((z : Int) == (x : Int)) = true := by rw [beq_iff_eq]; omega
      rw [show (decide (x = a) || decide (x = z)) = true by simp [h2]]
      clear h1 h2
      go_enter Tryz.func77, Tryz.ntmps77
      go_wp2_with (go_at_call 102; refine (HE.out _).mono ?_; rintro e w1 ⟨rfl, hb⟩)
      refine wp_loop_rounds 2 ?_
      rw [rounds_succ]; go_wp2
      rw [rounds_succ]; go_wp2
      go_ret
      exact ⟨rfl, bnext (balloc (Below.refl _ _) _) hb⟩
    · have hc2 : ((z : Int) == (x : Int)) = false := by rw [beq_eq_false_iff_ne]; omega
      rw [show (decide (x = a) || decide (x = z)) = false by simp [h1, h2]]
      clear h1 h2
      go_enter Tryz.func77, Tryz.ntmps77
      go_wp2_with (go_at_call 102; refine (HE.out _).mono ?_; rintro e w1 ⟨rfl, hb⟩)
      refine wp_loop_rounds 3 ?_
      rw [rounds_succ]; go_wp2
      rw [rounds_succ]; go_wp2
      rw [rounds_succ]; go_wp2
      go_ret
      exact ⟨rfl, bnext (balloc (Below.refl _ _) _) hb⟩
end Go.Proofs.YtlanfceilajifaaGreatDoor
/- addr: the reference's kind. -/
namespace Go.Proofs.YtlanfceilajifaaGreatDoor
set_option linter.unusedVariables false
set_option linter.unusedSimpArgs false
open Go.RowKit
set_option maxRecDepth 100000
set_option maxHeartbeats 1000000 in
/-- the reference's kind -/
theorem refKindA_any (a : Nat) (w : World) (ha : a < 4294967296) :
    Calls Tryz.prog 71 #[.int .u32 a] w fun e w' => e = .returned (.int .i64 (kindF a)) ∧ Below w.heap.size w w' := by
  have hK : kindF a = if a = 0 then 1 else if a / 16777216 = 0 then 2 else if a / 16777216 = 127 then 3 else if 224 ≤ a / 16777216 ∧ a / 16777216 ≤ 239 then 4 else if 240 ≤ a / 16777216 then 5 else 6 := rfl
  by_cases h1 : a = 0
  · rw [if_pos h1] at hK
    rw [hK]
    subst h1
    clear hK
    go_enter Tryz.func71, Tryz.ntmps71
    go_wp2
    go_ret
    exact ⟨rfl, by go_grown⟩
  have g1 : ((a : Int) == 0) = false := by simp; omega
  rw [if_neg h1] at hK
  by_cases h2 : a / 16777216 = 0
  · rw [if_pos h2] at hK
    rw [hK]
    have g2 : (((a : Int) / 16777216) == 0) = true := by simp; omega
    clear hK h2 h1
    go_enter Tryz.func71, Tryz.ntmps71
    go_wp2
    go_ret
    exact ⟨rfl, by go_grown⟩
  have g2 : (((a : Int) / 16777216) == 0) = false := by simp; omega
  rw [if_neg h2] at hK
  by_cases h3 : a / 16777216 = 127
  · rw [if_pos h3] at hK
    rw [hK]
    have g3 : (((a : Int) / 16777216) == 127) = true := by simp; omega
    clear hK h3 h2 h1
    go_enter Tryz.func71, Tryz.ntmps71
    go_wp2
    go_ret
    exact ⟨rfl, by go_grown⟩
  have g3 : (((a : Int) / 16777216) == 127) = false := by simp; omega
  rw [if_neg h3] at hK
  by_cases h4 : 224 ≤ a / 16777216 ∧ a / 16777216 ≤ 239
  · rw [if_pos h4] at hK
    rw [hK]
    have g4 : 224 ≤ (a : Int) / 16777216 := by omega
    have g5 : (a : Int) / 16777216 ≤ 239 := by omega
    clear hK h4 h3 h2 h1
    go_enter Tryz.func71, Tryz.ntmps71
    go_wp2
    go_ret
    exact ⟨rfl, by go_grown⟩
  rw [if_neg h4] at hK
  by_cases h5 : 240 ≤ a / 16777216
  · rw [if_pos h5] at hK
    rw [hK]
    have g4 : 224 ≤ (a : Int) / 16777216 := by omega
    have g5 : ¬ (a : Int) / 16777216 ≤ 239 := by omega
    have g6 : 240 ≤ (a : Int) / 16777216 := by omega
    clear hK h5 h4 h3 h2 h1
    go_enter Tryz.func71, Tryz.ntmps71
    go_wp2
    go_ret
    exact ⟨rfl, by go_grown⟩
  · rw [if_neg h5] at hK
    rw [hK]
    have g4 : ¬ 224 ≤ (a : Int) / 16777216 := by omega
    have g6 : ¬ 240 ≤ (a : Int) / 16777216 := by omega
    clear hK h5 h4 h3 h2 h1
    go_enter Tryz.func71, Tryz.ntmps71
    go_wp2
    go_ret
    exact ⟨rfl, by go_grown⟩
end Go.Proofs.YtlanfceilajifaaGreatDoor
/- face: Check; the document's Inside and Right. -/
namespace Go.Proofs.YtlanfceilajifaaGreatDoor
set_option linter.unusedVariables false
set_option linter.unusedSimpArgs false
open Go.RowKit
set_option maxRecDepth 100000
theorem okF_not {f : Fc} (h : okP f.net = false ∨ ¬ 1 ≤ f.nl ∨ ¬ f.nl ≤ 30 ∨ hasF f.net f.ad = false ∨ endF f.net f.ad = true ∨ kindF f.ad ≠ 6) : okF f = false := by
  unfold okF
  rcases h with h | h | h | h | h | h <;> simp [h]
theorem okF_yes {f : Fc} (h0 : okP f.net = true) (h1 : 1 ≤ f.nl) (h2 : f.nl ≤ 30) (h3 : hasF f.net f.ad = true) (h4 : endF f.net f.ad = false) (h5 : kindF f.ad = 6) : okF f = true := by
  unfold okF
  simp [h0, h1, h2, h3, h4, h5]

set_option maxHeartbeats 4000000 in
theorem fcheck_any (na : Nat) (nl : Int) (ad : Nat) (up : Bool) (w : World) (ha : na < 4294967296) (hd : ad < 4294967296) :
    Calls Tryz.prog 37 #[.agg #[.int .u32 na, .int .i64 nl, .int .u32 ad, .bool up]] w fun e w' => e = .returned (.int .i64 (if okF ⟨na, nl, ad, up⟩ then 0 else 2)) ∧ Below w.heap.size w w' := by
  have HC := Lib.hid (fun W => check_any na nl W ha)
  have HH := Lib.hid (fun W => phas_any na nl ad W ha hd)
  have HK := Lib.hid (fun W => kind_any ad W hd)
  by_cases h0 : okP (na, nl) = false
  · rw [okF_not (f := ⟨na, nl, ad, up⟩) (.inl h0)]
    rw [h0] at HC
    simp only [Bool.false_eq_true, if_false] at HC
    simp only [if_true, Bool.false_eq_true, if_false]
    clear h0
    go_enter Tryz.func37, Tryz.ntmps37
    go_wp2_with fail
    refine scope_fwd 0 rfl ?_
    go_wp2_with fail
    refine (HC.out _).mono ?_
    rintro e w1 ⟨rfl, b1⟩
    have K1 := (Blk.new w 88 #[.int .u32 na, .int .i64 nl, .int .u32 ad, .bool up]).below b1 (by simp)
    have c1 := bnext (balloc (Below.refl _ w) _) b1
    have d0 := (K1).cell 0
    have d1 := (K1).cell 1
    have d2 := (K1).cell 2
    have d3 := (K1).cell 3
    simp only [List.getElem?_toArray, List.getElem?_cons_zero, List.getElem?_cons_succ] at d0 d1 d2 d3
    have z1 := K1.lt
    clear b1
    go_wp2_with fail
    go_step3
    refine ⟨rfl, ?_⟩
    go_wp2
    rw [Exit.noGoto_ret]
    go_ret
    exact ⟨rfl, c1⟩
  by_cases h1 : nl < 1
  · rw [okF_not (f := ⟨na, nl, ad, up⟩) (.inr (.inl (by show ¬ 1 ≤ nl; omega)))]
    rw [show okP (na, nl) = true by simpa using h0] at HC
    simp only [if_true, Bool.false_eq_true, if_false] at HC
    have g1 : decide (nl < 1) = true := decide_eq_true h1
    simp only [if_true, Bool.false_eq_true, if_false]
    clear h0 h1
    go_enter Tryz.func37, Tryz.ntmps37
    go_wp2_with fail
    refine scope_fwd 0 rfl ?_
    go_wp2_with fail
    refine (HC.out _).mono ?_
    rintro e w1 ⟨rfl, b1⟩
    have K1 := (Blk.new w 88 #[.int .u32 na, .int .i64 nl, .int .u32 ad, .bool up]).below b1 (by simp)
    have c1 := bnext (balloc (Below.refl _ w) _) b1
    have d0 := (K1).cell 0
    have d1 := (K1).cell 1
    have d2 := (K1).cell 2
    have d3 := (K1).cell 3
    simp only [List.getElem?_toArray, List.getElem?_cons_zero, List.getElem?_cons_succ] at d0 d1 d2 d3
    have z1 := K1.lt
    clear b1
    go_wp2_with fail
    go_step3
    refine ⟨rfl, ?_⟩
    go_wp2
    rw [Exit.noGoto_ret]
    go_ret
    exact ⟨rfl, c1⟩
  by_cases h2 : 30 < nl
  · rw [okF_not (f := ⟨na, nl, ad, up⟩) (.inr (.inr (.inl (by show ¬ nl ≤ 30; omega))))]
    rw [show okP (na, nl) = true by simpa using h0] at HC
    simp only [if_true, Bool.false_eq_true, if_false] at HC
    have g1 : decide (nl < 1) = false := decide_eq_false h1
    have g2 : decide (30 < nl) = true := decide_eq_true h2
    simp only [if_true, Bool.false_eq_true, if_false]
    clear h0 h1 h2
    go_enter Tryz.func37, Tryz.ntmps37
    go_wp2_with fail
    refine scope_fwd 0 rfl ?_
    go_wp2_with fail
    refine (HC.out _).mono ?_
    rintro e w1 ⟨rfl, b1⟩
    have K1 := (Blk.new w 88 #[.int .u32 na, .int .i64 nl, .int .u32 ad, .bool up]).below b1 (by simp)
    have c1 := bnext (balloc (Below.refl _ w) _) b1
    have d0 := (K1).cell 0
    have d1 := (K1).cell 1
    have d2 := (K1).cell 2
    have d3 := (K1).cell 3
    simp only [List.getElem?_toArray, List.getElem?_cons_zero, List.getElem?_cons_succ] at d0 d1 d2 d3
    have z1 := K1.lt
    clear b1
    go_wp2_with fail
    go_step3
    refine ⟨rfl, ?_⟩
    go_wp2
    rw [Exit.noGoto_ret]
    go_ret
    exact ⟨rfl, c1⟩
  by_cases h3 : hasF (na, nl) ad = false
  · rw [okF_not (f := ⟨na, nl, ad, up⟩) (.inr (.inr (.inr (.inl h3))))]
    rw [show okP (na, nl) = true by simpa using h0] at HC
    simp only [if_true, Bool.false_eq_true, if_false] at HC
    have g1 : decide (nl < 1) = false := decide_eq_false h1
    have g2 : decide (30 < nl) = false := decide_eq_false h2
    rw [h3] at HH
    simp only [if_true, Bool.false_eq_true, if_false]
    clear h0 h1 h2 h3
    go_enter Tryz.func37, Tryz.ntmps37
    go_wp2_with fail
    refine scope_fwd 0 rfl ?_
    go_wp2_with fail
    refine (HC.out _).mono ?_
    rintro e w1 ⟨rfl, b1⟩
    have K1 := (Blk.new w 88 #[.int .u32 na, .int .i64 nl, .int .u32 ad, .bool up]).below b1 (by simp)
    have c1 := bnext (balloc (Below.refl _ w) _) b1
    have d0 := (K1).cell 0
    have d1 := (K1).cell 1
    have d2 := (K1).cell 2
    have d3 := (K1).cell 3
    simp only [List.getElem?_toArray, List.getElem?_cons_zero, List.getElem?_cons_succ] at d0 d1 d2 d3
    have z1 := K1.lt
    clear b1
    go_wp2_with fail
    refine (HH.out _).mono ?_
    rintro e w2 ⟨rfl, b2⟩
    have K2 := K1.below b2 K1.lt
    have c2 := bnext c1 b2
    clear K1 z1 b2 c1
    clear d0 d1 d2 d3
    have d0 := (K2).cell 0
    have d1 := (K2).cell 1
    have d2 := (K2).cell 2
    have d3 := (K2).cell 3
    simp only [List.getElem?_toArray, List.getElem?_cons_zero, List.getElem?_cons_succ] at d0 d1 d2 d3
    have z2 := K2.lt
    go_wp2_with fail
    go_step3
    refine ⟨rfl, ?_⟩
    go_wp2
    rw [Exit.noGoto_ret]
    go_ret
    exact ⟨rfl, c2⟩
  by_cases h4 : endF (na, nl) ad = true
  · rw [okF_not (f := ⟨na, nl, ad, up⟩) (.inr (.inr (.inr (.inr (.inl h4)))))]
    rw [show okP (na, nl) = true by simpa using h0] at HC
    simp only [if_true, Bool.false_eq_true, if_false] at HC
    have g1 : decide (nl < 1) = false := decide_eq_false h1
    have g2 : decide (30 < nl) = false := decide_eq_false h2
    rw [show hasF (na, nl) ad = true by simpa using h3] at HH
    obtain ⟨k, hk, hk2, hz⟩ := okP_bounds (show okP (na, nl) = true by simpa using h0)
    have HE := Lib.hid (fun W => isEnd_any na k ad W ha hk2 hz)
    rw [← hk] at HE
    clear hk hk2 hz
    rw [h4] at HE
    simp only [if_true, Bool.false_eq_true, if_false]
    clear h0 h1 h2 h3 h4
    go_enter Tryz.func37, Tryz.ntmps37
    go_wp2_with fail
    refine scope_fwd 0 rfl ?_
    go_wp2_with fail
    refine (HC.out _).mono ?_
    rintro e w1 ⟨rfl, b1⟩
    have K1 := (Blk.new w 88 #[.int .u32 na, .int .i64 nl, .int .u32 ad, .bool up]).below b1 (by simp)
    have c1 := bnext (balloc (Below.refl _ w) _) b1
    have d0 := (K1).cell 0
    have d1 := (K1).cell 1
    have d2 := (K1).cell 2
    have d3 := (K1).cell 3
    simp only [List.getElem?_toArray, List.getElem?_cons_zero, List.getElem?_cons_succ] at d0 d1 d2 d3
    have z1 := K1.lt
    clear b1
    go_wp2_with fail
    refine (HH.out _).mono ?_
    rintro e w2 ⟨rfl, b2⟩
    have K2 := K1.below b2 K1.lt
    have c2 := bnext c1 b2
    clear K1 z1 b2 c1
    clear d0 d1 d2 d3
    have d0 := (K2).cell 0
    have d1 := (K2).cell 1
    have d2 := (K2).cell 2
    have d3 := (K2).cell 3
    simp only [List.getElem?_toArray, List.getElem?_cons_zero, List.getElem?_cons_succ] at d0 d1 d2 d3
    have z2 := K2.lt
    go_wp2_with fail
    refine (HE.out _).mono ?_
    rintro e w3 ⟨rfl, b3⟩
    have K3 := K2.below b3 K2.lt
    have c3 := bnext c2 b3
    clear K2 z2 b3 c2
    clear d0 d1 d2 d3
    have d0 := (K3).cell 0
    have d1 := (K3).cell 1
    have d2 := (K3).cell 2
    have d3 := (K3).cell 3
    simp only [List.getElem?_toArray, List.getElem?_cons_zero, List.getElem?_cons_succ] at d0 d1 d2 d3
    have z3 := K3.lt
    go_wp2_with fail
    go_step3
    refine ⟨rfl, ?_⟩
    go_wp2
    rw [Exit.noGoto_ret]
    go_ret
    exact ⟨rfl, c3⟩
  by_cases h5 : ¬ kindF ad = 6
  · rw [okF_not (f := ⟨na, nl, ad, up⟩) (.inr (.inr (.inr (.inr (.inr h5)))))]
    rw [show okP (na, nl) = true by simpa using h0] at HC
    simp only [if_true, Bool.false_eq_true, if_false] at HC
    have g1 : decide (nl < 1) = false := decide_eq_false h1
    have g2 : decide (30 < nl) = false := decide_eq_false h2
    rw [show hasF (na, nl) ad = true by simpa using h3] at HH
    obtain ⟨k, hk, hk2, hz⟩ := okP_bounds (show okP (na, nl) = true by simpa using h0)
    have HE := Lib.hid (fun W => isEnd_any na k ad W ha hk2 hz)
    rw [← hk] at HE
    clear hk hk2 hz
    rw [show endF (na, nl) ad = false by simpa using h4] at HE
    have g5 : (((kindF ad : Nat) : Int) != 6) = true := by rw [bne_iff_ne]; omega
    generalize kindF ad = kd at *
    simp only [if_true, Bool.false_eq_true, if_false]
    clear h0 h1 h2 h3 h4 h5
    go_enter Tryz.func37, Tryz.ntmps37
    go_wp2_with fail
    refine scope_fwd 0 rfl ?_
    go_wp2_with fail
    refine (HC.out _).mono ?_
    rintro e w1 ⟨rfl, b1⟩
    have K1 := (Blk.new w 88 #[.int .u32 na, .int .i64 nl, .int .u32 ad, .bool up]).below b1 (by simp)
    have c1 := bnext (balloc (Below.refl _ w) _) b1
    have d0 := (K1).cell 0
    have d1 := (K1).cell 1
    have d2 := (K1).cell 2
    have d3 := (K1).cell 3
    simp only [List.getElem?_toArray, List.getElem?_cons_zero, List.getElem?_cons_succ] at d0 d1 d2 d3
    have z1 := K1.lt
    clear b1
    go_wp2_with fail
    refine (HH.out _).mono ?_
    rintro e w2 ⟨rfl, b2⟩
    have K2 := K1.below b2 K1.lt
    have c2 := bnext c1 b2
    clear K1 z1 b2 c1
    clear d0 d1 d2 d3
    have d0 := (K2).cell 0
    have d1 := (K2).cell 1
    have d2 := (K2).cell 2
    have d3 := (K2).cell 3
    simp only [List.getElem?_toArray, List.getElem?_cons_zero, List.getElem?_cons_succ] at d0 d1 d2 d3
    have z2 := K2.lt
    go_wp2_with fail
    refine (HE.out _).mono ?_
    rintro e w3 ⟨rfl, b3⟩
    have K3 := K2.below b3 K2.lt
    have c3 := bnext c2 b3
    clear K2 z2 b3 c2
    clear d0 d1 d2 d3
    have d0 := (K3).cell 0
    have d1 := (K3).cell 1
    have d2 := (K3).cell 2
    have d3 := (K3).cell 3
    simp only [List.getElem?_toArray, List.getElem?_cons_zero, List.getElem?_cons_succ] at d0 d1 d2 d3
    have z3 := K3.lt
    go_wp2_with fail
    refine (HK.out _).mono ?_
    rintro e w4 ⟨rfl, b4⟩
    have c4 := bnext c3 b4
    clear K3 b4 c3
    go_wp2_with fail
    go_step3
    refine ⟨rfl, ?_⟩
    go_wp2
    rw [Exit.noGoto_ret]
    go_ret
    exact ⟨rfl, c4⟩
  rw [okF_yes (f := ⟨na, nl, ad, up⟩) (show okP (na, nl) = true by simpa using h0) (by show 1 ≤ nl; omega) (by show nl ≤ 30; omega) (show hasF (na, nl) ad = true by simpa using h3) (show endF (na, nl) ad = false by simpa using h4) (by simpa using h5)]
  rw [show okP (na, nl) = true by simpa using h0] at HC
  simp only [if_true, Bool.false_eq_true, if_false] at HC
  have g1 : decide (nl < 1) = false := decide_eq_false h1
  have g2 : decide (30 < nl) = false := decide_eq_false h2
  rw [show hasF (na, nl) ad = true by simpa using h3] at HH
  obtain ⟨k, hk, hk2, hz⟩ := okP_bounds (show okP (na, nl) = true by simpa using h0)
  have HE := Lib.hid (fun W => isEnd_any na k ad W ha hk2 hz)
  rw [← hk] at HE
  clear hk hk2 hz
  rw [show endF (na, nl) ad = false by simpa using h4] at HE
  have h5' : kindF ad = 6 := by simpa using h5
  rw [h5'] at HK
  clear h5'
  simp only [if_true, Bool.false_eq_true, if_false]
  clear h0 h1 h2 h3 h4 h5
  go_enter Tryz.func37, Tryz.ntmps37
  go_wp2_with fail
  refine scope_fwd 0 rfl ?_
  go_wp2_with fail
  refine (HC.out _).mono ?_
  rintro e w1 ⟨rfl, b1⟩
  have K1 := (Blk.new w 88 #[.int .u32 na, .int .i64 nl, .int .u32 ad, .bool up]).below b1 (by simp)
  have c1 := bnext (balloc (Below.refl _ w) _) b1
  have d0 := (K1).cell 0
  have d1 := (K1).cell 1
  have d2 := (K1).cell 2
  have d3 := (K1).cell 3
  simp only [List.getElem?_toArray, List.getElem?_cons_zero, List.getElem?_cons_succ] at d0 d1 d2 d3
  have z1 := K1.lt
  clear b1
  go_wp2_with fail
  refine (HH.out _).mono ?_
  rintro e w2 ⟨rfl, b2⟩
  have K2 := K1.below b2 K1.lt
  have c2 := bnext c1 b2
  clear K1 z1 b2 c1
  clear d0 d1 d2 d3
  have d0 := (K2).cell 0
  have d1 := (K2).cell 1
  have d2 := (K2).cell 2
  have d3 := (K2).cell 3
  simp only [List.getElem?_toArray, List.getElem?_cons_zero, List.getElem?_cons_succ] at d0 d1 d2 d3
  have z2 := K2.lt
  go_wp2_with fail
  refine (HE.out _).mono ?_
  rintro e w3 ⟨rfl, b3⟩
  have K3 := K2.below b3 K2.lt
  have c3 := bnext c2 b3
  clear K2 z2 b3 c2
  clear d0 d1 d2 d3
  have d0 := (K3).cell 0
  have d1 := (K3).cell 1
  have d2 := (K3).cell 2
  have d3 := (K3).cell 3
  simp only [List.getElem?_toArray, List.getElem?_cons_zero, List.getElem?_cons_succ] at d0 d1 d2 d3
  have z3 := K3.lt
  go_wp2_with fail
  refine (HK.out _).mono ?_
  rintro e w4 ⟨rfl, b4⟩
  have c4 := bnext c3 b4
  clear K3 b4 c3
  go_wp2_with fail
  rw [jump_ret]
  go_ret
  exact ⟨rfl, c4⟩
end Go.Proofs.YtlanfceilajifaaGreatDoor
/- The document's Inside and Right. -/
namespace Go.Proofs.YtlanfceilajifaaGreatDoor
set_option linter.unusedVariables false
set_option linter.unusedSimpArgs false
open Go.RowKit
set_option maxRecDepth 100000
/-- are the bits behind the prefix, as far as looked at, all 0, all 1? -/
def zF (x k j : Nat) : Bool := decide (x / 2 ^ (32 - j) % 2 ^ (j - k) = 0)
def oF (x k j : Nat) : Bool := decide (x / 2 ^ (32 - j) % 2 ^ (j - k) = 2 ^ (j - k) - 1)
theorem low_step {x k j : Nat} (hk : k ≤ j) (hj : j < 32) : x / 2 ^ (32 - (j + 1)) % 2 ^ (j + 1 - k) = bitF x j + 2 * (x / 2 ^ (32 - j) % 2 ^ (j - k)) ∧ 2 ^ (j + 1 - k) = 2 * 2 ^ (j - k) ∧ bitF x j < 2 ∧ x / 2 ^ (32 - j) % 2 ^ (j - k) < 2 ^ (j - k) ∧ 0 < 2 ^ (j - k) := by
  have h1 : 2 ^ (j + 1 - k) = 2 * 2 ^ (j - k) := by rw [show j + 1 - k = (j - k) + 1 by omega, Nat.pow_succ, Nat.mul_comm]
  have h2 : 0 < 2 ^ (j - k) := Nat.two_pow_pos _
  refine ⟨?_, h1, ?_, Nat.mod_lt _ h2, h2⟩
  · rw [h1, show 32 - (j + 1) = 31 - j by omega, Nat.mod_mul]
    have e : x / 2 ^ (31 - j) / 2 = x / 2 ^ (32 - j) := by
      rw [Nat.div_div_eq_div_mul, ← Nat.pow_succ]
      congr 2
      omega
    rw [e]
    rfl
  · unfold bitF; omega
theorem zF_step {x k j : Nat} (hk : k ≤ j) (hj : j < 32) : zF x k (j + 1) = (zF x k j && decide (bitF x j = 0)) := by
  obtain ⟨h1, h2, h3, h4, h5⟩ := low_step (x := x) hk hj
  unfold zF
  rw [h1, ← Bool.decide_and]
  refine decide_eq_decide.2 ⟨fun h => ⟨by omega, by omega⟩, fun h => by omega⟩
theorem oF_step {x k j : Nat} (hk : k ≤ j) (hj : j < 32) : oF x k (j + 1) = (oF x k j && decide (bitF x j = 1)) := by
  obtain ⟨h1, h2, h3, h4, h5⟩ := low_step (x := x) hk hj
  unfold oF
  rw [h1, h2, ← Bool.decide_and]
  refine decide_eq_decide.2 ⟨fun h => ⟨by omega, by omega⟩, fun h => by omega⟩
theorem zF_start (x k : Nat) : zF x k k = true := by simp [zF, Nat.mod_one]
theorem oF_start (x k : Nat) : oF x k k = true := by simp [oF, Nat.mod_one]
theorem end_low {a k x : Nat} (hz : a % 2 ^ (32 - k) = 0) (hs : x / 2 ^ (32 - k) = a / 2 ^ (32 - k)) : endF (a, (k : Int)) x = (zF x k 32 || oF x k 32) := by
  have hp : 0 < 2 ^ (32 - k) := Nat.two_pow_pos _
  have h1 := Nat.div_add_mod x (2 ^ (32 - k))
  have h2 := Nat.div_add_mod a (2 ^ (32 - k))
  rw [hs] at h1
  unfold endF zF oF
  simp only [Nat.sub_self, Nat.pow_zero, Nat.div_one, Int.toNat_natCast]
  have e1 : (x = a) ↔ (x % 2 ^ (32 - k) = 0) := by omega
  have e2 : (x = a + (2 ^ (32 - k) - 1)) ↔ (x % 2 ^ (32 - k) = 2 ^ (32 - k) - 1) := by omega
  rw [decide_eq_decide.2 e1, decide_eq_decide.2 e2]

set_option maxHeartbeats 4000000 in
theorem inside_any (a : Nat) (n : Int) (x : Nat) (w : World) (ha : a < 4294967296) (hx : x < 4294967296) :
    Calls Tryz.prog 72 #[.agg #[.int .u32 a, .int .i64 n], .int .u32 x] w fun e w' => e = .returned (.bool (hasF (a, n) x && !endF (a, n) x)) ∧ Below w.heap.size w w' := by
  have HH := Lib.hid (fun W => refHas_any a n x W ha hx)
  cases hh : hasF (a, n) x
  · rw [hh] at HH
    clear hh
    simp only [Bool.false_and]
    go_enter Tryz.func72, Tryz.ntmps72
    go_wp2_with (go_at_call 73; refine (HH.out _).mono ?_; rintro e w1 ⟨rfl, hb⟩)
    go_ret
    exact ⟨rfl, bnext (balloc (Below.refl _ _) _) hb⟩
  · rw [hh] at HH
    have hp : okP (a, n) = true := by unfold hasF at hh; simp at hh; exact hh.1
    obtain ⟨k, rfl, hk2, hz⟩ := okP_bounds hp
    have hs : x / 2 ^ (32 - k) = a / 2 ^ (32 - k) := by unfold hasF at hh; simp at hh; exact hh.2
    have HE := Lib.hid (end_low hz hs)
    clear hh hp hz hs
    simp only [Bool.true_and]
    go_enter Tryz.func72, Tryz.ntmps72
    go_wp2_with fail
    refine (HH.out _).mono ?_
    rintro e w1 ⟨rfl, b1⟩
    have K1 := (Blk.new w 86 #[.int .u32 a, .int .i64 k]).below b1 (by simp)
    have c1 := bnext (balloc (Below.refl _ w) _) b1
    have d0 := (K1).cell 0
    have d1 := (K1).cell 1
    simp only [List.getElem?_toArray, List.getElem?_cons_zero, List.getElem?_cons_succ] at d0 d1
    clear b1
    go_wp2_with fail
    go_loop [5, 6, 7] (fun z o i => ∃ j : Nat, k ≤ j ∧ j ≤ 32 ∧ i = .int .i64 j ∧ z = .bool (zF x k j) ∧ o = .bool (oF x k j)) (fun _ _ i => 32 - (intOf i).toNat)
    case atStart => exact ⟨k, Nat.le_refl _, hk2, rfl, by rw [zF_start], by rw [oF_start]⟩
    case round =>
      obtain ⟨j, hkj, hj, rfl, rfl, rfl⟩ := hrel
      by_cases hlt : j < 32
      · have B1 := Lib.hid (fun W => bit_any x j W hx (by omega) (by omega))
        rw [Int.toNat_natCast] at B1
        have ZS := Lib.hid (zF_step (x := x) hkj hlt)
        have OS := Lib.hid (oF_step (x := x) hkj hlt)
        have hb01 : bitF x j = 0 ∨ bitF x j = 1 := by unfold bitF; omega
        generalize zF x k j = z at *
        generalize oF x k j = o at *
        generalize bitF x j = b at *
        rcases hb01 with rfl | rfl <;> cases z <;> cases o
        all_goals
          go_wp2_with (go_at_call 94; refine (B1.out _).mono ?_; rintro e w' ⟨rfl, rfl⟩)
          go_round
          case rel => exact ⟨j + 1, by omega, by omega, by go_num, by rw [ZS.out]; rfl, by rw [OS.out]; rfl⟩
          case measure => simp [intOf]; omega
      · obtain rfl : j = 32 := by omega
        have HE' := HE.out
        generalize zF x k 32 = z at *
        generalize oF x k 32 = o at *
        have HQ := Lib.hid HE'
        clear HE'
        cases z <;> cases o
        all_goals
          go_wp2
          go_ret
          rw [HQ.out]
          exact ⟨rfl, c1⟩

set_option maxHeartbeats 4000000 in
theorem right9_any (na : Nat) (nl : Int) (ad : Nat) (up : Bool) (w : World) (ha : na < 4294967296) (hd : ad < 4294967296) :
    Calls Tryz.prog 33 #[.agg #[.int .u32 na, .int .i64 nl, .int .u32 ad, .bool up]] w fun e w' => e = .returned (.bool (okF ⟨na, nl, ad, up⟩)) ∧ Below w.heap.size w w' := by
  have HC := Lib.hid (fun W => refRight_any na nl W ha)
  have HH := Lib.hid (fun W => inside_any na nl ad W ha hd)
  have HK := Lib.hid (fun W => refKindA_any ad W hd)
  by_cases h0 : okP (na, nl) = false
  · rw [okF_not (f := ⟨na, nl, ad, up⟩) (.inl h0)]
    rw [h0] at HC
    clear h0
    go_enter Tryz.func33, Tryz.ntmps33
    go_wp2_with fail
    refine (HC.out _).mono ?_
    rintro e w1 ⟨rfl, b1⟩
    have K1 := (Blk.new w 88 #[.int .u32 na, .int .i64 nl, .int .u32 ad, .bool up]).below b1 (by simp)
    have c1 := bnext (balloc (Below.refl _ w) _) b1
    have d0 := (K1).cell 0
    have d1 := (K1).cell 1
    have d2 := (K1).cell 2
    have d3 := (K1).cell 3
    simp only [List.getElem?_toArray, List.getElem?_cons_zero, List.getElem?_cons_succ] at d0 d1 d2 d3
    have z1 := K1.lt
    clear b1
    go_wp2_with fail
    go_ret
    exact ⟨rfl, c1⟩
  by_cases h1 : nl < 1
  · rw [okF_not (f := ⟨na, nl, ad, up⟩) (.inr (.inl (by show ¬ 1 ≤ nl; omega)))]
    rw [show okP (na, nl) = true by simpa using h0] at HC
    have g1 : decide (1 ≤ nl) = false := decide_eq_false (by omega)
    clear h0 h1
    go_enter Tryz.func33, Tryz.ntmps33
    go_wp2_with fail
    refine (HC.out _).mono ?_
    rintro e w1 ⟨rfl, b1⟩
    have K1 := (Blk.new w 88 #[.int .u32 na, .int .i64 nl, .int .u32 ad, .bool up]).below b1 (by simp)
    have c1 := bnext (balloc (Below.refl _ w) _) b1
    have d0 := (K1).cell 0
    have d1 := (K1).cell 1
    have d2 := (K1).cell 2
    have d3 := (K1).cell 3
    simp only [List.getElem?_toArray, List.getElem?_cons_zero, List.getElem?_cons_succ] at d0 d1 d2 d3
    have z1 := K1.lt
    clear b1
    go_wp2_with fail
    go_ret
    exact ⟨rfl, c1⟩
  by_cases h2 : 30 < nl
  · rw [okF_not (f := ⟨na, nl, ad, up⟩) (.inr (.inr (.inl (by show ¬ nl ≤ 30; omega))))]
    rw [show okP (na, nl) = true by simpa using h0] at HC
    have g1 : decide (1 ≤ nl) = true := decide_eq_true (by omega)
    have g2 : decide (nl ≤ 30) = false := decide_eq_false (by omega)
    clear h0 h1 h2
    go_enter Tryz.func33, Tryz.ntmps33
    go_wp2_with fail
    refine (HC.out _).mono ?_
    rintro e w1 ⟨rfl, b1⟩
    have K1 := (Blk.new w 88 #[.int .u32 na, .int .i64 nl, .int .u32 ad, .bool up]).below b1 (by simp)
    have c1 := bnext (balloc (Below.refl _ w) _) b1
    have d0 := (K1).cell 0
    have d1 := (K1).cell 1
    have d2 := (K1).cell 2
    have d3 := (K1).cell 3
    simp only [List.getElem?_toArray, List.getElem?_cons_zero, List.getElem?_cons_succ] at d0 d1 d2 d3
    have z1 := K1.lt
    clear b1
    go_wp2_with fail
    go_ret
    exact ⟨rfl, c1⟩
  by_cases h3 : ¬ kindF ad = 6
  · rw [okF_not (f := ⟨na, nl, ad, up⟩) (.inr (.inr (.inr (.inr (.inr h3)))))]
    rw [show okP (na, nl) = true by simpa using h0] at HC
    have g1 : decide (1 ≤ nl) = true := decide_eq_true (by omega)
    have g2 : decide (nl ≤ 30) = true := decide_eq_true (by omega)
    have g5 : (((kindF ad : Nat) : Int) == 6) = false := by rw [beq_eq_false_iff_ne]; omega
    generalize kindF ad = kd at *
    clear h0 h1 h2 h3
    go_enter Tryz.func33, Tryz.ntmps33
    go_wp2_with fail
    refine (HC.out _).mono ?_
    rintro e w1 ⟨rfl, b1⟩
    have K1 := (Blk.new w 88 #[.int .u32 na, .int .i64 nl, .int .u32 ad, .bool up]).below b1 (by simp)
    have c1 := bnext (balloc (Below.refl _ w) _) b1
    have d0 := (K1).cell 0
    have d1 := (K1).cell 1
    have d2 := (K1).cell 2
    have d3 := (K1).cell 3
    simp only [List.getElem?_toArray, List.getElem?_cons_zero, List.getElem?_cons_succ] at d0 d1 d2 d3
    have z1 := K1.lt
    clear b1
    go_wp2_with fail
    refine (HK.out _).mono ?_
    rintro e w2 ⟨rfl, b2⟩
    have K2 := K1.below b2 K1.lt
    have c2 := bnext c1 b2
    clear K1 z1 b2 c1
    clear d0 d1 d2 d3
    have d0 := (K2).cell 0
    have d1 := (K2).cell 1
    have d2 := (K2).cell 2
    have d3 := (K2).cell 3
    simp only [List.getElem?_toArray, List.getElem?_cons_zero, List.getElem?_cons_succ] at d0 d1 d2 d3
    have z2 := K2.lt
    go_wp2_with fail
    go_ret
    exact ⟨rfl, c2⟩
  by_cases h4 : hasF (na, nl) ad = false
  · rw [okF_not (f := ⟨na, nl, ad, up⟩) (.inr (.inr (.inr (.inl h4))))]
    rw [show okP (na, nl) = true by simpa using h0] at HC
    have g1 : decide (1 ≤ nl) = true := decide_eq_true (by omega)
    have g2 : decide (nl ≤ 30) = true := decide_eq_true (by omega)
    have h3' : kindF ad = 6 := by simpa using h3
    rw [h3'] at HK
    clear h3'
    rw [show (hasF (na, nl) ad && !endF (na, nl) ad) = false by rw [h4]; rfl] at HH
    clear h0 h1 h2 h3 h4
    go_enter Tryz.func33, Tryz.ntmps33
    go_wp2_with fail
    refine (HC.out _).mono ?_
    rintro e w1 ⟨rfl, b1⟩
    have K1 := (Blk.new w 88 #[.int .u32 na, .int .i64 nl, .int .u32 ad, .bool up]).below b1 (by simp)
    have c1 := bnext (balloc (Below.refl _ w) _) b1
    have d0 := (K1).cell 0
    have d1 := (K1).cell 1
    have d2 := (K1).cell 2
    have d3 := (K1).cell 3
    simp only [List.getElem?_toArray, List.getElem?_cons_zero, List.getElem?_cons_succ] at d0 d1 d2 d3
    have z1 := K1.lt
    clear b1
    go_wp2_with fail
    refine (HK.out _).mono ?_
    rintro e w2 ⟨rfl, b2⟩
    have K2 := K1.below b2 K1.lt
    have c2 := bnext c1 b2
    clear K1 z1 b2 c1
    clear d0 d1 d2 d3
    have d0 := (K2).cell 0
    have d1 := (K2).cell 1
    have d2 := (K2).cell 2
    have d3 := (K2).cell 3
    simp only [List.getElem?_toArray, List.getElem?_cons_zero, List.getElem?_cons_succ] at d0 d1 d2 d3
    have z2 := K2.lt
    go_wp2_with fail
    refine (HH.out _).mono ?_
    rintro e w3 ⟨rfl, b3⟩
    have c3 := bnext c2 b3
    clear K2 b3 c2
    go_wp2_with fail
    go_ret
    exact ⟨rfl, c3⟩
  by_cases h5 : endF (na, nl) ad = true
  · rw [okF_not (f := ⟨na, nl, ad, up⟩) (.inr (.inr (.inr (.inr (.inl h5)))))]
    rw [show okP (na, nl) = true by simpa using h0] at HC
    have g1 : decide (1 ≤ nl) = true := decide_eq_true (by omega)
    have g2 : decide (nl ≤ 30) = true := decide_eq_true (by omega)
    have h3' : kindF ad = 6 := by simpa using h3
    rw [h3'] at HK
    clear h3'
    rw [show (hasF (na, nl) ad && !endF (na, nl) ad) = false by rw [h5]; simp] at HH
    clear h0 h1 h2 h3 h4 h5
    go_enter Tryz.func33, Tryz.ntmps33
    go_wp2_with fail
    refine (HC.out _).mono ?_
    rintro e w1 ⟨rfl, b1⟩
    have K1 := (Blk.new w 88 #[.int .u32 na, .int .i64 nl, .int .u32 ad, .bool up]).below b1 (by simp)
    have c1 := bnext (balloc (Below.refl _ w) _) b1
    have d0 := (K1).cell 0
    have d1 := (K1).cell 1
    have d2 := (K1).cell 2
    have d3 := (K1).cell 3
    simp only [List.getElem?_toArray, List.getElem?_cons_zero, List.getElem?_cons_succ] at d0 d1 d2 d3
    have z1 := K1.lt
    clear b1
    go_wp2_with fail
    refine (HK.out _).mono ?_
    rintro e w2 ⟨rfl, b2⟩
    have K2 := K1.below b2 K1.lt
    have c2 := bnext c1 b2
    clear K1 z1 b2 c1
    clear d0 d1 d2 d3
    have d0 := (K2).cell 0
    have d1 := (K2).cell 1
    have d2 := (K2).cell 2
    have d3 := (K2).cell 3
    simp only [List.getElem?_toArray, List.getElem?_cons_zero, List.getElem?_cons_succ] at d0 d1 d2 d3
    have z2 := K2.lt
    go_wp2_with fail
    refine (HH.out _).mono ?_
    rintro e w3 ⟨rfl, b3⟩
    have c3 := bnext c2 b3
    clear K2 b3 c2
    go_wp2_with fail
    go_ret
    exact ⟨rfl, c3⟩
  rw [okF_yes (f := ⟨na, nl, ad, up⟩) (show okP (na, nl) = true by simpa using h0) (by show 1 ≤ nl; omega) (by show nl ≤ 30; omega) (show hasF (na, nl) ad = true by simpa using h4) (show endF (na, nl) ad = false by simpa using h5) (by simpa using h3)]
  rw [show okP (na, nl) = true by simpa using h0] at HC
  have g1 : decide (1 ≤ nl) = true := decide_eq_true (by omega)
  have g2 : decide (nl ≤ 30) = true := decide_eq_true (by omega)
  have h3' : kindF ad = 6 := by simpa using h3
  rw [h3'] at HK
  clear h3'
  rw [show (hasF (na, nl) ad && !endF (na, nl) ad) = true by simp at h4 h5; rw [h4, h5]; rfl] at HH
  clear h0 h1 h2 h3 h4 h5
  go_enter Tryz.func33, Tryz.ntmps33
  go_wp2_with fail
  refine (HC.out _).mono ?_
  rintro e w1 ⟨rfl, b1⟩
  have K1 := (Blk.new w 88 #[.int .u32 na, .int .i64 nl, .int .u32 ad, .bool up]).below b1 (by simp)
  have c1 := bnext (balloc (Below.refl _ w) _) b1
  have d0 := (K1).cell 0
  have d1 := (K1).cell 1
  have d2 := (K1).cell 2
  have d3 := (K1).cell 3
  simp only [List.getElem?_toArray, List.getElem?_cons_zero, List.getElem?_cons_succ] at d0 d1 d2 d3
  have z1 := K1.lt
  clear b1
  go_wp2_with fail
  refine (HK.out _).mono ?_
  rintro e w2 ⟨rfl, b2⟩
  have K2 := K1.below b2 K1.lt
  have c2 := bnext c1 b2
  clear K1 z1 b2 c1
  clear d0 d1 d2 d3
  have d0 := (K2).cell 0
  have d1 := (K2).cell 1
  have d2 := (K2).cell 2
  have d3 := (K2).cell 3
  simp only [List.getElem?_toArray, List.getElem?_cons_zero, List.getElem?_cons_succ] at d0 d1 d2 d3
  have z2 := K2.lt
  go_wp2_with fail
  refine (HH.out _).mono ?_
  rintro e w3 ⟨rfl, b3⟩
  have c3 := bnext c2 b3
  clear K2 b3 c2
  go_wp2_with fail
  go_ret
  exact ⟨rfl, c3⟩
end Go.Proofs.YtlanfceilajifaaGreatDoor
