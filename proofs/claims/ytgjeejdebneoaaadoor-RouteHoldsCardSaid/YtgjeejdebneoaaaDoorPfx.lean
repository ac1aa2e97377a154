/- prefix: masks, lengths, which prefixes may be; the references beside. -/
import Derived.Test.YtgjeejdebneoaaaDoorAddr
import Derived.Test.YtgjeejdebneoaaaDoorShelf
namespace Go.Proofs.YtgjeejdebneoaaaDoor
set_option linter.unusedVariables false
set_option linter.unusedSimpArgs false
open Go.RowKit
set_option maxRecDepth 100000

/-- the mask of a length -/
def maskF (k : Nat) : Nat := 4294967296 - 2 ^ (32 - k)
theorem maskF_all : ∀ k : Fin 33, 4294967295 * 2 ^ (32 - k.val) % 4294967296 = maskF k.val := by decide +kernel
theorem maskF_eq (k : Nat) (hk : k ≤ 32) : (4294967295 * 2 ^ (32 - k) % 4294967296 : Int) = (maskF k : Int) := by
  have := maskF_all ⟨k, by omega⟩
  rw [← this]
  simp
theorem maskF_lt (k : Nat) : maskF k < 4294967296 := by
  unfold maskF
  have : 0 < 2 ^ (32 - k) := Nat.two_pow_pos _
  omega

theorem mask_any (k : Int) (w : World) (h0 : 0 ≤ k) (hk : k ≤ 32) :
    Calls Tryd.prog 84 #[.int .i64 k] w fun e w' => e = .returned (.int .u32 (maskF k.toNat)) ∧ w = w' := by
  obtain ⟨k, rfl⟩ := Int.eq_ofNat_of_zero_le h0
  rw [Int.toNat_natCast]
  go_enter Tryd.func84, Tryd.ntmps84
  go_wp2
  go_ret
  exact ⟨by rw [← maskF_eq k (by omega)]; rfl, rfl⟩

/-- the length of a mask, or that it is none -/
def lenL (m : Nat) : Nat := 32 - Lib.bitLen (4294967295 - m)
def lenF (m : Nat) : Nat × Int := if maskF (lenL m) = m then (lenL m, 0) else (0, 120)
theorem lenL_mask : ∀ k : Fin 33, lenL (maskF k.val) = k.val := by decide +kernel
theorem bitLenAux_le (f : Nat) : ∀ x, Lib.bitLenAux f x ≤ f := by
  induction f with
  | zero => intro x; simp [Lib.bitLenAux]
  | succ f ih =>
    intro x
    unfold Lib.bitLenAux
    split
    · omega
    · have := ih (x / 2); omega
theorem bitLen_le32 (x : Nat) (h : x < 4294967296) : Lib.bitLen x ≤ 32 := by
  unfold Lib.bitLen
  rw [Lib.bitLenAux_fuel 32 x (by simpa using h) 64 (by omega)]
  exact bitLenAux_le 32 x
theorem lenL_le (m : Nat) : lenL m ≤ 32 := by unfold lenL; omega

theorem Mask_any (k : Int) (w : World) (h0 : 0 ≤ k) (hk : k ≤ 32) :
    Calls Tryd.prog 75 #[.int .i64 k] w fun e w' => e = .returned (.tuple #[.int .u32 (maskF k.toNat), .int .i64 0]) ∧ w = w' := by
  go_enter Tryd.func75, Tryd.ntmps75
  go_wp2_with fail
  refine scope_fwd 0 rfl ?_
  go_wp2_with (go_at_call 84; refine (mask_any _ _ h0 hk).mono ?_; rintro e w' ⟨rfl, rfl⟩)
  rw [jump_ret]
  go_ret2
  exact ⟨rfl, rfl⟩

theorem not_u32 (m : Nat) (hm : m < 4294967296) : bits .xor .u32 IntKind.u32.max (m : Int) = 4294967295 - (m : Int) := by
  show IntKind.u32.wrap ((BitVec.ofInt 32 4294967295 ^^^ BitVec.ofInt 32 (m : Int)).toNat : Int) = _
  have h1 : BitVec.ofInt 32 4294967295 = BitVec.allOnes 32 := by decide
  rw [h1, BitVec.allOnes_xor, BitVec.toNat_not, ofInt_u32 m hm, IntKind.wrap_u32']
  omega
set_option maxHeartbeats 400000 in
theorem len_any (m : Nat) (w : World) (hm : m < 4294967296) :
    Calls Tryd.prog 105 #[.int .u32 m] w fun e w' => e = .returned (.tuple #[.int .i64 (lenF m).1, .int .i64 (lenF m).2]) ∧ w = w' := by
  have hle := bitLen_le32 (4294967295 - m) (by omega)
  have hL : (32 - (Lib.bitLen (4294967295 - m) : Int)) = (lenL m : Int) := by unfold lenL; omega
  have c1 : ∀ W, Calls Tryd.prog 110 #[.int .u32 (4294967295 - (m : Int))] W fun e w' => e = .returned (.int .i64 (lenL m)) ∧ W = w' := fun W =>
    (bits_LeadingZeros32 _ W (by omega) (by omega)).mono fun e w' ⟨he, hw⟩ => ⟨by rw [he, ← hL, show ((4294967295 : Int) - m).toNat = 4294967295 - m by omega], hw.symm⟩
  have hsg : IntKind.u32.signed = false := rfl
  have hmx := not_u32 m hm
  have hle2 := lenL_le m
  have HF := Lib.hid (show lenF m = if maskF (lenL m) = m then (lenL m, 0) else (0, 120) from rfl)
  generalize lenL m = k at *
  have C1 := Lib.hid c1
  clear c1 hL hle
  by_cases h : maskF k = m
  · subst h
    have hne : (((maskF k : Nat) : Int) != (maskF k : Nat)) = false := by simp
    go_enter Tryd.func105, Tryd.ntmps105
    go_wp2_with fail
    refine scope_fwd 0 rfl ?_
    go_wp2_with (first
      | (go_at_call 110; refine (C1.out _).mono ?_; rintro e w' ⟨rfl, rfl⟩)
      | (go_at_call 75; refine (Mask_any _ _ (by omega) (by omega)).mono ?_; rw [Int.toNat_natCast]; rintro e w' ⟨rfl, rfl⟩))
    rw [jump_ret]
    go_ret2
    rw [HF.out, if_pos trivial]
    exact ⟨rfl, rfl⟩
  · have hne : (((maskF k : Nat) : Int) != (m : Int)) = true := by simp; omega
    have H := Lib.hid h
    clear h
    go_enter Tryd.func105, Tryd.ntmps105
    go_wp2_with fail
    refine scope_fwd 0 rfl ?_
    go_wp2_with (first
      | (go_at_call 110; refine (C1.out _).mono ?_; rintro e w' ⟨rfl, rfl⟩)
      | (go_at_call 75; refine (Mask_any _ _ (by omega) (by omega)).mono ?_; rw [Int.toNat_natCast]; rintro e w' ⟨rfl, rfl⟩))
    go_step3
    refine ⟨rfl, ?_⟩
    go_wp2
    rw [Exit.noGoto_ret]
    go_ret2
    rw [HF.out, if_neg H.out]
    exact ⟨rfl, rfl⟩

/-- may a prefix be? -/
def okP (p : Nat × Int) : Bool := decide (0 ≤ p.2 ∧ p.2 ≤ 32 ∧ p.1 % 2 ^ (32 - p.2.toNat) = 0)
/-- a prefix as cells -/
def pfxC (p : Nat × Int) : List Value := [.int .u32 p.1, .int .i64 p.2]
theorem flat2 (ps : List (Nat × Int)) (k : Nat) (h : k < ps.length) : (ps.flatMap pfxC)[k * 2]? = some (.int .u32 ps[k].1) ∧ (ps.flatMap pfxC)[k * 2 + 1]? = some (.int .i64 ps[k].2) := by
  induction ps generalizing k with
  | nil => simp at h
  | cons p ps ih =>
    cases k with
    | zero => simp [pfxC]
    | succ k =>
      have := ih k (by simpa using h)
      simp only [List.flatMap_cons, pfxC, List.cons_append, List.nil_append, Nat.succ_mul, List.getElem_cons_succ]
      exact this
theorem andNot_mask (a k : Nat) (ha : a < 4294967296) (hk : k ≤ 32) : bits .andNot .u32 (a : Int) (maskF k : Int) = ((a % 2 ^ (32 - k) : Nat) : Int) := by
  rw [u32_andNot_nat a (maskF k) ha (maskF_lt k)]
  congr 1
  have h1 : 2 ^ (32 - k) ≤ 2 ^ 32 := Nat.pow_le_pow_right (by omega) (by omega)
  have h2 : 0 < 2 ^ (32 - k) := Nat.two_pow_pos _
  have : 4294967295 - maskF k = 2 ^ (32 - k) - 1 := by unfold maskF; omega
  rw [this, Nat.and_two_pow_sub_one_eq_mod]

set_option maxHeartbeats 1000000 in
theorem mayBe_any (ps : List (Nat × Int)) (A : Option Addr) (c : Nat) (w : World) (hr : Rd w w.heap.size A (ps.flatMap pfxC)) (hp : ∀ p ∈ ps, p.1 < 4294967296) (hl : ps.length ≤ 1000) :
    Calls Tryd.prog 83 #[.slice A ps.length c] w fun e w' => e = .returned (.bool (ps.all okP)) ∧ Below w.heap.size w w' := by
  have HP := Lib.hid hp
  clear hp
  go_enter Tryd.func83, Tryd.ntmps83
  go_wp2
  go_loopw [7] (fun i wr => ∃ k : Nat, k ≤ ps.length ∧ i = .int .i64 k ∧ Below w.heap.size w wr ∧ (ps.take k).all okP = true) (fun i _ => ps.length - (intOf i).toNat)
  case atStart => exact ⟨0, Nat.zero_le _, rfl, Below.refl _ _, by simp⟩
  case round =>
    obtain ⟨k, hk, rfl, hb, hall⟩ := hrel
    by_cases hlt : k < ps.length
    · obtain ⟨b, off, rfl, hbb, hc⟩ := (hr.below hb) (by
        have : 0 < ps.length := by omega
        cases ps with
        | nil => simp at this
        | cons p ps => simp [pfxC])
      have hc0 := hc (k * 2) (.int .u32 ps[k].1) (flat2 ps k hlt).1
      have hc1 := hc (k * 2 + 1) (.int .i64 ps[k].2) (flat2 ps k hlt).2
      rw [← Nat.add_assoc] at hc1
      have hpk := HP.out ps[k] (List.getElem_mem hlt)
      have HA := Lib.hid hall
      have HT := Lib.hid (List.take_succ_eq_append_getElem hlt)
      have HD := Lib.hid (List.getElem_mem hlt)
      generalize ps[k] = p at *
      obtain ⟨a, n⟩ := p
      clear hc hall
      simp only at hc0 hc1 hpk
      have hfin : okP (a, n) = false → ps.all okP = false := fun h => by
        rw [Bool.eq_false_iff]
        intro hc
        have := List.all_eq_true.1 hc _ HD.out
        rw [h] at this; cases this
      have HFin := Lib.hid hfin
      clear hfin
      by_cases hn0 : n < 0
      · go_wp2
        go_quiet (fail)
        go_wp2
        go_ret
        rw [HFin.out (by simp [okP]; omega)]
        exact ⟨rfl, below_drewN (balloc hb _) _⟩
      by_cases hn1 : 32 < n
      · go_wp2
        go_quiet (fail)
        go_wp2
        go_ret
        rw [HFin.out (by simp [okP]; omega)]
        exact ⟨rfl, below_drewN (balloc hb _) _⟩
      obtain ⟨n, rfl⟩ := Int.eq_ofNat_of_zero_le (show 0 ≤ n by omega)
      have hbit := andNot_mask a n hpk (by omega)
      by_cases hz : a % 2 ^ (32 - n) = 0
      · have hd : (((a % 2 ^ (32 - n) : Nat) : Int) != 0) = false := by rw [hz]; rfl
        have HZ : Hid (a % 2 ^ (32 - n) = 0) := Lib.hid hz
        clear hz
        have hbit2 : bits .andNot .u32 (a : Int) (maskF n : Int) = 0 := by rw [hbit, HZ.out]; rfl
        clear hbit hd
        go_wp2
        go_quiet ((go_at_call 84; exact q_same (mask_any _ _ (by omega) (by omega))))
        go_wp2
        go_roundw
        case rel => exact ⟨k + 1, by omega, by go_num, below_drewN (balloc hb _) _, by rw [HT.out, List.all_append, HA.out]; simp only [List.all_cons, List.all_nil, okP, Bool.true_and, Bool.and_true, decide_eq_true_eq, Int.toNat_natCast]; exact ⟨by omega, by omega, HZ.out⟩⟩
        case measure => simp [intOf]; omega
      · have hd : (((a % 2 ^ (32 - n) : Nat) : Int) != 0) = true := by rw [bne_iff_ne]; exact fun h => hz (Int.natCast_eq_zero.1 h)
        have hz2 : okP (a, (n : Int)) = false := by simp only [okP, Int.toNat_natCast]; exact decide_eq_false (fun h => hz h.2.2)
        have HZ := Lib.hid (HFin.out hz2)
        clear hz hz2
        generalize a % 2 ^ (32 - n) = z at *
        go_wp2
        go_quiet ((go_at_call 84; exact q_same (mask_any _ _ (by omega) (by omega))))
        go_wp2
        go_ret
        rw [HZ.out]
        exact ⟨rfl, below_drewN (balloc hb _) _⟩
    · obtain rfl : k = ps.length := by omega
      rw [List.take_length] at hall
      have HA := Lib.hid hall
      clear hall
      go_wp2
      go_ret
      rw [HA.out]
      exact ⟨rfl, hb⟩

/-- a prefix as a value -/
def pfxV (p : Nat × Int) : Value := .agg #[.int .u32 p.1, .int .i64 p.2]

theorem Rd.newL (w : World) (t : TypeId) (cs : Array Value) (ys : List Value) (h : cs = ys.toArray) : Rd (w.alloc (.cells cs t)) (w.heap.size + 1) (some ⟨w.heap.size, 0, none⟩) ys := by subst h; exact Rd.new w t ys

set_option maxHeartbeats 400000 in
theorem check_any (a : Nat) (n : Int) (w : World) (ha : a < 4294967296) :
    Calls Tryd.prog 74 #[.agg #[.int .u32 a, .int .i64 n]] w fun e w' => e = .returned (.int .i64 (if okP (a, n) then 0 else 2)) ∧ Below w.heap.size w w' := by
  have hm : ∀ W, Rd W W.heap.size (some ⟨w.heap.size + 1, 0, none⟩) ([(a, n)].flatMap pfxC) → Calls Tryd.prog 83 #[.slice (some ⟨w.heap.size + 1, 0, none⟩) 1 1] W fun e w' => e = .returned (.bool (okP (a, n))) ∧ Below W.heap.size W w' := fun W h =>
    (mayBe_any [(a, n)] _ 1 W h (by simpa using ha) (by simp)).mono fun e w' ⟨he, hb⟩ => ⟨by rw [he]; simp, hb⟩
  have HM := Lib.hid hm
  clear hm
  cases hk : okP (a, n)
  all_goals
    go_enter Tryd.func74, Tryd.ntmps74
    go_wp2_with fail
    refine scope_fwd 0 rfl ?_
    go_wp2_with fail
    refine (HM.out _ ?_).mono ?_
    · have := Rd.newL (w.alloc (.cells #[.int .u32 a, .int .i64 n] 28)) 28 #[.int .u32 a, .int .i64 n] (pfxC (a, n)) rfl
      simpa using this
    rw [hk]
    rintro e w' ⟨rfl, hb⟩
    replace hb := bnext (((Below.refl _ w).alloc (Nat.le_refl _) (.cells #[.int .u32 a, .int .i64 n] 28)).alloc (by simp) (.cells #[.int .u32 a, .int .i64 n] 28)) hb
    go_wp2_with fail
  · go_step3
    refine ⟨rfl, ?_⟩
    go_wp2
    rw [Exit.noGoto_ret]
    go_ret
    exact ⟨rfl, hb⟩
  · rw [jump_ret]
    go_ret
    exact ⟨rfl, hb⟩

end Go.Proofs.YtgjeejdebneoaaaDoor
