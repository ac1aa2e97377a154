/- MB: Pfx, PfxR, Ent, EntB, Ent2, Ent3, Ent4, Eq: several texts in one. -/
import Derived.Test.YtlanfceilajifaaGreatDoorMA
import Derived.Test.YtlanfceilajifaaGreatDoorRows
/- prefix: masks, lengths, which prefixes may be; the references beside. -/
namespace Go.Proofs.YtlanfceilajifaaGreatDoor
set_option linter.unusedVariables false
set_option linter.unusedSimpArgs false
open Go.RowKit
set_option maxRecDepth 100000

/-- the mask of a length -/
def maskF (k : Nat) : Nat := 4294967296 - 2 ^ (32 - k)
theorem maskF_all : ∀ k : Fin 33, 4294967295 * 2 ^ (32 - k.val) % 4294967296 = maskF k.val := by decide +kernel
theorem maskF_eq (k : Nat) (hk : k ≤ 32) : (4294967295 * 2 ^ (32 - k) % 4294967296 : Int) = (maskF k : Int) := by
  have := maskF_all ⟨k, by omega⟩
  rw [← this]
  simp
theorem maskF_lt (k : Nat) : maskF k < 4294967296 := by
  unfold maskF
  have : 0 < 2 ^ (32 - k) := Nat.two_pow_pos _
  omega

theorem mask_any (k : Int) (w : World) (h0 : 0 ≤ k) (hk : k ≤ 32) :
    Calls Tryz.prog 101 #[.int .i64 k] w fun e w' => e = .returned (.int .u32 (maskF k.toNat)) ∧ w = w' := by
  obtain ⟨k, rfl⟩ := Int.eq_ofNat_of_zero_le h0
  rw [Int.toNat_natCast]
  go_enter Tryz.func101, Tryz.ntmps101
  go_wp2
  go_ret
  exact ⟨by rw [← maskF_eq k (by omega)]; rfl, rfl⟩

/-- the length of a mask, or that it is none -/
def lenL (m : Nat) : Nat := 32 - Lib.bitLen (4294967295 - m)
def lenF (m : Nat) : Nat × Int := if maskF (lenL m) = m then (lenL m, 0) else (0, 120)
theorem lenL_mask : ∀ k : Fin 33, lenL (maskF k.val) = k.val := by decide +kernel
theorem bitLenAux_le (f : Nat) : ∀ x, Lib.bitLenAux f x ≤ f := by
  induction f with
  | zero => intro x; simp [Lib.bitLenAux]
  | succ f ih =>
    intro x
    unfold Lib.bitLenAux
    split
    · omega
    · have := ih (x / 2); omega
theorem bitLen_le32 (x : Nat) (h : x < 4294967296) : Lib.bitLen x ≤ 32 := by
  unfold Lib.bitLen
  rw [Lib.bitLenAux_fuel 32 x (by simpa using h) 64 (by omega)]
  exact bitLenAux_le 32 x
theorem lenL_le (m : Nat) : lenL m ≤ 32 := by unfold lenL; omega

theorem Mask_any (k : Int) (w : World) (h0 : 0 ≤ k) (hk : k ≤ 32) :
    Calls Tryz.prog 119 #[.int .i64 k] w fun e w' => e = .returned (.tuple #[.int .u32 (maskF k.toNat), .int .i64 0]) ∧ w = w' := by
  go_enter Tryz.func119, Tryz.ntmps119
  go_wp2_with fail
  refine scope_fwd 0 rfl ?_
  go_wp2_with (go_at_call 101; refine (mask_any _ _ h0 hk).mono ?_; rintro e w' ⟨rfl, rfl⟩)
  rw [jump_ret]
  go_ret2
  exact ⟨rfl, rfl⟩

theorem not_u32 (m : Nat) (hm : m < 4294967296) : bits .xor .u32 IntKind.u32.max (m : Int) = 4294967295 - (m : Int) := by
  show IntKind.u32.wrap ((BitVec.ofInt 32 4294967295 ^^^ BitVec.ofInt 32 (m : Int)).toNat : Int) = _
  have h1 : BitVec.ofInt 32 4294967295 = BitVec.allOnes 32 := by decide
  rw [h1, BitVec.allOnes_xor, BitVec.toNat_not, ofInt_u32 m hm, IntKind.wrap_u32']
  omega
set_option maxHeartbeats 400000 in
theorem len_any (m : Nat) (w : World) (hm : m < 4294967296) :
    Calls Tryz.prog 117 #[.int .u32 m] w fun e w' => e = .returned (.tuple #[.int .i64 (lenF m).1, .int .i64 (lenF m).2]) ∧ w = w' := by
  have hle := bitLen_le32 (4294967295 - m) (by omega)
  have hL : (32 - (Lib.bitLen (4294967295 - m) : Int)) = (lenL m : Int) := by unfold lenL; omega
  have c1 : ∀ W, Calls Tryz.prog 150 #[.int .u32 (4294967295 - (m : Int))] W fun e w' => e = .returned (.int .i64 (lenL m)) ∧ W = w' := fun W =>
    (bits_LeadingZeros32 _ W (by omega) (by omega)).mono fun e w' ⟨he, hw⟩ => ⟨by rw [he, ← hL, show ((4294967295 : Int) - m).toNat = 4294967295 - m by omega], hw.symm⟩
  have hsg : IntKind.u32.signed = false := rfl
  have hmx := not_u32 m hm
  have hle2 := lenL_le m
  have HF := Lib.hid (show lenF m = if maskF (lenL m) = m then (lenL m, 0) else (0, 120) from rfl)
  generalize lenL m = k at *
  have C1 := Lib.hid c1
  clear c1 hL hle
  by_cases h : maskF k = m
  · subst h
    have hne : (((maskF k : Nat) : Int) != (maskF k : Nat)) = false := by simp
    go_enter Tryz.func117, Tryz.ntmps117
    go_wp2_with fail
    refine scope_fwd 0 rfl ?_
    go_wp2_with (first
      | (go_at_call 150; refine (C1.out _).mono ?_; rintro e w' ⟨rfl, rfl⟩)
      | (go_at_call 119; refine (Mask_any _ _ (by omega) (by omega)).mono ?_; rw [Int.toNat_natCast]; rintro e w' ⟨rfl, rfl⟩))
    rw [jump_ret]
    go_ret2
    rw [HF.out, if_pos trivial]
    exact ⟨rfl, rfl⟩
  · have hne : (((maskF k : Nat) : Int) != (m : Int)) = true := by simp; omega
    have H := Lib.hid h
    clear h
    go_enter Tryz.func117, Tryz.ntmps117
    go_wp2_with fail
    refine scope_fwd 0 rfl ?_
    go_wp2_with (first
      | (go_at_call 150; refine (C1.out _).mono ?_; rintro e w' ⟨rfl, rfl⟩)
      | (go_at_call 119; refine (Mask_any _ _ (by omega) (by omega)).mono ?_; rw [Int.toNat_natCast]; rintro e w' ⟨rfl, rfl⟩))
    go_step3
    refine ⟨rfl, ?_⟩
    go_wp2
    rw [Exit.noGoto_ret]
    go_ret2
    rw [HF.out, if_neg H.out]
    exact ⟨rfl, rfl⟩

/-- may a prefix be? -/
def okP (p : Nat × Int) : Bool := decide (0 ≤ p.2 ∧ p.2 ≤ 32 ∧ p.1 % 2 ^ (32 - p.2.toNat) = 0)
/-- a prefix as cells -/
def pfxC (p : Nat × Int) : List Value := [.int .u32 p.1, .int .i64 p.2]
theorem flat2 (ps : List (Nat × Int)) (k : Nat) (h : k < ps.length) : (ps.flatMap pfxC)[k * 2]? = some (.int .u32 ps[k].1) ∧ (ps.flatMap pfxC)[k * 2 + 1]? = some (.int .i64 ps[k].2) := by
  induction ps generalizing k with
  | nil => simp at h
  | cons p ps ih =>
    cases k with
    | zero => simp [pfxC]
    | succ k =>
      have := ih k (by simpa using h)
      simp only [List.flatMap_cons, pfxC, List.cons_append, List.nil_append, Nat.succ_mul, List.getElem_cons_succ]
      exact this
theorem andNot_mask (a k : Nat) (ha : a < 4294967296) (hk : k ≤ 32) : bits .andNot .u32 (a : Int) (maskF k : Int) = ((a % 2 ^ (32 - k) : Nat) : Int) := by
  rw [u32_andNot_nat a (maskF k) ha (maskF_lt k)]
  congr 1
  have h1 : 2 ^ (32 - k) ≤ 2 ^ 32 := Nat.pow_le_pow_right (by omega) (by omega)
  have h2 : 0 < 2 ^ (32 - k) := Nat.two_pow_pos _
  have : 4294967295 - maskF k = 2 ^ (32 - k) - 1 := by unfold maskF; omega
  rw [this, Nat.and_two_pow_sub_one_eq_mod]

set_option maxHeartbeats 1000000 in
theorem mayBe_any (ps : List (Nat × Int)) (A : Option Addr) (c : Nat) (w : World) (hr : Rd w w.heap.size A (ps.flatMap pfxC)) (hp : ∀ p ∈ ps, p.1 < 4294967296) (hl : ps.length ≤ 1000) :
    Calls Tryz.prog 79 #[.slice A ps.length c] w fun e w' => e = .returned (.bool (ps.all okP)) ∧ Below w.heap.size w w' := by
  have HP := Lib.hid hp
  clear hp
  go_enter Tryz.func79, Tryz.ntmps79
  go_wp2
  go_loopw [7] (fun i wr => ∃ k : Nat, k ≤ ps.length ∧ i = .int .i64 k ∧ Below w.heap.size w wr ∧ (ps.take k).all okP = true) (fun i _ => ps.length - (intOf i).toNat)
  case atStart => exact ⟨0, Nat.zero_le _, rfl, Below.refl _ _, by simp⟩
  case round =>
    obtain ⟨k, hk, rfl, hb, hall⟩ := hrel
    by_cases hlt : k < ps.length
    · obtain ⟨b, off, rfl, hbb, hc⟩ := (hr.below hb) (by
        have : 0 < ps.length := by omega
        cases ps with
        | nil => simp at this
        | cons p ps => simp [pfxC])
      have hc0 := hc (k * 2) (.int .u32 ps[k].1) (flat2 ps k hlt).1
      have hc1 := hc (k * 2 + 1) (.int .i64 ps[k].2) (flat2 ps k hlt).2
      rw [← Nat.add_assoc] at hc1
      have hpk := HP.out ps[k] (List.getElem_mem hlt)
      have HA := Lib.hid hall
      have HT := Lib.hid (List.take_succ_eq_append_getElem hlt)
      have HD := Lib.hid (List.getElem_mem hlt)
      generalize ps[k] = p at *
      obtain ⟨a, n⟩ := p
      clear hc hall
      simp only at hc0 hc1 hpk
      have hfin : okP (a, n) = false → ps.all okP = false := fun h => by
        rw [Bool.eq_false_iff]
        intro hc
        have := List.all_eq_true.1 hc _ HD.out
        rw [h] at this; cases this
      have HFin := Lib.hid hfin
      clear hfin
      by_cases hn0 : n < 0
      · go_wp2
        go_quiet (fail)
        go_wp2
        go_ret
        rw [HFin.out (by simp [okP]; omega)]
        exact ⟨rfl, below_drewN (balloc hb _) _⟩
      by_cases hn1 : 32 < n
      · go_wp2
        go_quiet (fail)
        go_wp2
        go_ret
        rw [HFin.out (by simp [okP]; omega)]
        exact ⟨rfl, below_drewN (balloc hb _) _⟩
      obtain ⟨n, rfl⟩ := Int.eq_ofNat_of_zero_le (show 0 ≤ n by omega)
      have hbit := andNot_mask a n hpk (by omega)
      by_cases hz : a % 2 ^ (32 - n) = 0
      · have hd : (((a % 2 ^ (32 - n) : Nat) : Int) != 0) = false := by rw [hz]; rfl
        have HZ : Hid (a % 2 ^ (32 - n) = 0) := Lib.hid hz
        clear hz
        have hbit2 : bits .andNot .u32 (a : Int) (maskF n : Int) = 0 := by rw [hbit, HZ.out]; rfl
        clear hbit hd
        go_wp2
        go_quiet ((go_at_call 101; exact q_same (mask_any _ _ (by omega) (by omega))))
        go_wp2
        go_roundw
        case rel => exact ⟨k + 1, by omega, by go_num, below_drewN (balloc hb _) _, by rw [HT.out, List.all_append, HA.out]; simp only [List.all_cons, List.all_nil, okP, Bool.true_and, Bool.and_true, decide_eq_true_eq, Int.toNat_natCast]; exact ⟨by omega, by omega, HZ.out⟩⟩
        case measure => simp [intOf]; omega
      · have hd : (((a % 2 ^ (32 - n) : Nat) : Int) != 0) = true := by rw [bne_iff_ne]; exact fun h => hz (Int.natCast_eq_zero.1 h)
        have hz2 : okP (a, (n : Int)) = false := by simp only [okP, Int.toNat_natCast]; exact decide_eq_false (fun h => hz h.2.2)
        have HZ := Lib.hid (HFin.out hz2)
        clear hz hz2
        generalize a % 2 ^ (32 - n) = z at *
        go_wp2
        go_quiet ((go_at_call 101; exact q_same (mask_any _ _ (by omega) (by omega))))
        go_wp2
        go_ret
        rw [HZ.out]
        exact ⟨rfl, below_drewN (balloc hb _) _⟩
    · obtain rfl : k = ps.length := by omega
      rw [List.take_length] at hall
      have HA := Lib.hid hall
      clear hall
      go_wp2
      go_ret
      rw [HA.out]
      exact ⟨rfl, hb⟩

/-- a prefix as a value -/
def pfxV (p : Nat × Int) : Value := .agg #[.int .u32 p.1, .int .i64 p.2]

theorem Rd.newL (w : World) (t : TypeId) (cs : Array Value) (ys : List Value) (h : cs = ys.toArray) : Rd (w.alloc (.cells cs t)) (w.heap.size + 1) (some ⟨w.heap.size, 0, none⟩) ys := by subst h; exact Rd.new w t ys

set_option maxHeartbeats 400000 in
theorem check_any (a : Nat) (n : Int) (w : World) (ha : a < 4294967296) :
    Calls Tryz.prog 75 #[.agg #[.int .u32 a, .int .i64 n]] w fun e w' => e = .returned (.int .i64 (if okP (a, n) then 0 else 2)) ∧ Below w.heap.size w w' := by
  have hm : ∀ W, Rd W W.heap.size (some ⟨w.heap.size + 1, 0, none⟩) ([(a, n)].flatMap pfxC) → Calls Tryz.prog 79 #[.slice (some ⟨w.heap.size + 1, 0, none⟩) 1 1] W fun e w' => e = .returned (.bool (okP (a, n))) ∧ Below W.heap.size W w' := fun W h =>
    (mayBe_any [(a, n)] _ 1 W h (by simpa using ha) (by simp)).mono fun e w' ⟨he, hb⟩ => ⟨by rw [he]; simp, hb⟩
  have HM := Lib.hid hm
  clear hm
  cases hk : okP (a, n)
  all_goals
    go_enter Tryz.func75, Tryz.ntmps75
    go_wp2_with fail
    refine scope_fwd 0 rfl ?_
    go_wp2_with fail
    refine (HM.out _ ?_).mono ?_
    · have := Rd.newL (w.alloc (.cells #[.int .u32 a, .int .i64 n] 86)) 86 #[.int .u32 a, .int .i64 n] (pfxC (a, n)) rfl
      simpa using this
    rw [hk]
    rintro e w' ⟨rfl, hb⟩
    replace hb := bnext (((Below.refl _ w).alloc (Nat.le_refl _) (.cells #[.int .u32 a, .int .i64 n] 86)).alloc (by simp) (.cells #[.int .u32 a, .int .i64 n] 86)) hb
    go_wp2_with fail
  · go_step3
    refine ⟨rfl, ?_⟩
    go_wp2
    rw [Exit.noGoto_ret]
    go_ret
    exact ⟨rfl, hb⟩
  · rw [jump_ret]
    go_ret
    exact ⟨rfl, hb⟩

end Go.Proofs.YtlanfceilajifaaGreatDoor
/- The references of prefix: what each answers. -/
namespace Go.Proofs.YtlanfceilajifaaGreatDoor
set_option linter.unusedVariables false
set_option linter.unusedSimpArgs false
open Go.RowKit
set_option maxRecDepth 100000

/-- a bit of an address -/
def bitF (a i : Nat) : Nat := a / 2 ^ (31 - i) % 2
set_option maxHeartbeats 400000 in
theorem bit_any (a : Nat) (i : Int) (w : World) (ha : a < 4294967296) (h0 : 0 ≤ i) (h1 : i ≤ 31) :
    Calls Tryz.prog 94 #[.int .u32 a, .int .i64 i] w fun e w' => e = .returned (.int .i64 (bitF a i.toNat)) ∧ w = w' := by
  obtain ⟨i, rfl⟩ := Int.eq_ofNat_of_zero_le h0
  rw [Int.toNat_natCast]
  go_enter Tryz.func94, Tryz.ntmps94
  go_wp2
  go_loop [5, 6] (fun v k => ∃ j : Nat, i ≤ 31 - j ∧ j ≤ 31 ∧ k = .int .i64 ((31 - j : Nat) : Int) ∧ v = .int .i64 ((a / 2 ^ j : Nat) : Int)) (fun _ k => (intOf k).toNat - i)
  case atStart => exact ⟨0, by omega, by omega, rfl, by simp⟩
  case round =>
    obtain ⟨j, hj, hj2, rfl, rfl⟩ := hrel
    have hlt : a / 2 ^ j < 4294967296 := Nat.lt_of_le_of_lt (Nat.div_le_self _ _) ha
    have HS := Lib.hid (show a / 2 ^ (j + 1) = a / 2 ^ j / 2 by rw [Nat.pow_succ, Nat.div_div_eq_div_mul])
    by_cases hg : i < 31 - j
    · obtain ⟨q, hq⟩ : ∃ q, q = a / 2 ^ j := ⟨_, rfl⟩
      rw [← hq] at hlt HS ⊢
      clear hq
      obtain ⟨r, hr⟩ : ∃ r : Nat, 31 - j = r + 1 := ⟨31 - j - 1, by omega⟩
      have HR := Lib.hid hr
      have hr31 : r ≤ 31 := by omega
      rw [hr] at hg ⊢
      clear hr hj
      go_wp2
      exact ⟨⟨j + 1, by have := HR.out; omega, by have := HR.out; omega, by rw [show 31 - (j + 1) = r by have := HR.out; omega]; try go_num, by rw [HS.out]; try go_num⟩, by simp [intOf]; try omega⟩
    · obtain rfl : j = 31 - i := by omega
      generalize hq : a / 2 ^ (31 - i) = q at *
      have HQ := Lib.hid hq
      clear hq
      go_wp2
      go_ret
      rw [show bitF a i = q % 2 by unfold bitF; rw [HQ.out]]
      exact ⟨by go_num, rfl⟩

theorem right_plain (a n : Nat) (hn : n ≤ 32) (ha : a < 4294967296) : (∀ i, n ≤ i → i < 32 → a / 2 ^ (31 - i) % 2 = 0) ↔ a % 2 ^ (32 - n) = 0 := by
  constructor
  · intro h
    have key : ∀ j, j ≤ 32 - n → a % 2 ^ j = 0 := by
      intro j
      induction j with
      | zero => intro _; simp [Nat.mod_one]
      | succ j ih =>
        intro hj
        have h1 := ih (by omega)
        have h2 := h (31 - j) (by omega) (by omega)
        rw [show 31 - (31 - j) = j by omega] at h2
        rw [Nat.pow_succ, Nat.mod_mul, h1, h2]; simp
    exact key _ (Nat.le_refl _)
  · intro h i h1 h2
    obtain ⟨q, hq⟩ := Nat.dvd_of_mod_eq_zero h
    have : 2 ^ (32 - n) = 2 ^ (31 - i) * 2 * 2 ^ (i - n) := by
      rw [← Nat.pow_succ, ← Nat.pow_add]
      congr 1
      omega
    rw [hq, this, Nat.mul_assoc, Nat.mul_assoc, Nat.mul_div_cancel_left _ (Nat.two_pow_pos _)]
    omega

set_option maxHeartbeats 1000000 in
theorem refRight_any (a : Nat) (n : Int) (w : World) (ha : a < 4294967296) :
    Calls Tryz.prog 55 #[.agg #[.int .u32 a, .int .i64 n]] w fun e w' => e = .returned (.bool (okP (a, n))) ∧ Below w.heap.size w w' := by
  by_cases h0 : n < 0
  · have hk : okP (a, n) = false := decide_eq_false (fun h => by simp at h; omega)
    rw [hk]
    go_enter Tryz.func55, Tryz.ntmps55
    go_wp2
    go_ret
    exact ⟨rfl, balloc (Below.refl _ _) _⟩
  by_cases h1 : 32 < n
  · have hk : okP (a, n) = false := decide_eq_false (fun h => by simp at h; omega)
    rw [hk]
    go_enter Tryz.func55, Tryz.ntmps55
    go_wp2
    go_ret
    exact ⟨rfl, balloc (Below.refl _ _) _⟩
  obtain ⟨n, rfl⟩ := Int.eq_ofNat_of_zero_le (show 0 ≤ n by omega)
  have hP := right_plain a n (by omega) ha
  have hK : okP (a, (n : Int)) = decide (a % 2 ^ (32 - n) = 0) := by
    simp only [okP, Int.toNat_natCast]
    rw [decide_eq_decide]
    constructor
    · exact fun h => h.2.2
    · exact fun h => ⟨by omega, by omega, h⟩
  have HT := Lib.hid (show (∀ i, n ≤ i → i < 32 → a / 2 ^ (31 - i) % 2 = 0) → okP (a, (n : Int)) = true from fun h => by rw [hK]; exact decide_eq_true (hP.1 h))
  have HN := Lib.hid (show (∀ j, n ≤ j → j < 32 → ¬ a / 2 ^ (31 - j) % 2 = 0 → okP (a, (n : Int)) = false) from fun j h1 h2 h3 => by rw [hK]; exact decide_eq_false (fun h => h3 (hP.2 h j h1 h2)))
  clear hP hK
  go_enter Tryz.func55, Tryz.ntmps55
  go_wp2
  go_loop [3] (fun k => ∃ j : Nat, n ≤ j ∧ j ≤ 32 ∧ k = .int .i64 j ∧ ∀ i, n ≤ i → i < j → a / 2 ^ (31 - i) % 2 = 0) (fun k => 32 - (intOf k).toNat)
  case atStart => exact ⟨n, by omega, by omega, rfl, fun i h1 h2 => by omega⟩
  case round =>
    obtain ⟨j, hj, hj2, rfl, hall⟩ := hrel
    have HA := Lib.hid hall
    clear hall
    by_cases hlt : j < 32
    · have hb := bit_any a j (w.alloc (.cells #[.int .u32 a, .int .i64 n] 86)) ha (by omega) (by omega)
      rw [Int.toNat_natCast] at hb
      unfold bitF at hb
      by_cases hz : a / 2 ^ (31 - j) % 2 = 0
      · have HZ : Hid (a / 2 ^ (31 - j) % 2 = 0) := Lib.hid hz
        rw [hz] at hb
        have HB := Lib.hid hb
        clear hz hb
        go_wp2_with (go_at_call 94; refine HB.out.mono ?_; rintro e w' ⟨rfl, rfl⟩)
        exact ⟨⟨j + 1, by omega, by omega, by go_num, fun i h1 h2 => by
          rcases Nat.lt_or_ge i j with h | h
          · exact HA.out i h1 h
          · obtain rfl : i = j := by omega
            exact HZ.out⟩, by simp [intOf]; omega⟩
      · have HZ : Hid (¬ a / 2 ^ (31 - j) % 2 = 0) := Lib.hid hz
        have hd : (((a / 2 ^ (31 - j) % 2 : Nat) : Int) != 0) = true := by rw [bne_iff_ne]; exact fun h => hz (Int.natCast_eq_zero.1 h)
        have HB := Lib.hid hb
        clear hz hb
        generalize hq : a / 2 ^ (31 - j) % 2 = z at *
        have HQ := Lib.hid hq
        clear hq
        go_wp2_with (go_at_call 94; refine HB.out.mono ?_; rintro e w' ⟨rfl, rfl⟩)
        go_ret
        refine ⟨?_, balloc (Below.refl _ _) _⟩
        rw [HN.out j hj hlt (by rw [HQ.out]; exact HZ.out)]; rfl
    · obtain rfl : j = 32 := by omega
      go_wp2
      go_ret
      refine ⟨?_, balloc (Below.refl _ _) _⟩
      rw [HT.out (fun i h1 h2 => HA.out i h1 h2)]; rfl

/-- the reference's mask, round by round -/
def maskTo (k i : Nat) : Nat := if i ≤ k then 2 ^ i - 1 else (2 ^ k - 1) * 2 ^ (i - k)
theorem maskTo_succ (k i : Nat) (hk : k ≤ 32) (hi : i < 32) : maskTo k (i + 1) = 2 * maskTo k i + (if i < k then 1 else 0) := by
  unfold maskTo
  by_cases h : i < k
  · rw [if_pos (by omega), if_pos (by omega), if_pos h, Nat.pow_succ]
    have : 0 < 2 ^ i := Nat.two_pow_pos _
    omega
  · rw [if_neg (by omega), if_neg h]
    by_cases h2 : i = k
    · subst h2
      rw [if_pos (Nat.le_refl _), show i + 1 - i = 1 by omega]; omega
    · rw [if_neg (by omega), show i + 1 - k = (i - k) + 1 by omega, Nat.pow_succ]
      rw [← Nat.mul_assoc]; omega
theorem maskTo_32 (k : Nat) (hk : k ≤ 32) : maskTo k 32 = maskF k := by
  have : ∀ k : Fin 33, maskTo k.val 32 = maskF k.val := by decide +kernel
  exact this ⟨k, by omega⟩
theorem maskTo_lt : ∀ (k : Fin 33) (i : Fin 33), maskTo k.val i.val < 2 ^ i.val := by decide +kernel

set_option maxHeartbeats 400000 in
theorem refMask_any (k : Int) (w : World) (h0 : 0 ≤ k) (hk : k ≤ 32) :
    Calls Tryz.prog 74 #[.int .i64 k] w fun e w' => e = .returned (.int .u32 (maskF k.toNat)) ∧ w = w' := by
  obtain ⟨k, rfl⟩ := Int.eq_ofNat_of_zero_le h0
  rw [Int.toNat_natCast]
  go_enter Tryz.func74, Tryz.ntmps74
  go_wp2
  go_loop [3, 4] (fun v i => ∃ j : Nat, j ≤ 32 ∧ i = .int .i64 j ∧ v = .int .u32 (maskTo k j)) (fun _ i => 32 - (intOf i).toNat)
  case atStart => exact ⟨0, by omega, rfl, by simp [maskTo]⟩
  case round =>
    obtain ⟨j, hj, rfl, rfl⟩ := hrel
    by_cases hlt : j < 32
    · have hm := maskTo_lt ⟨k, by omega⟩ ⟨j, by omega⟩
      have hp : 2 ^ j ≤ 2147483648 := by
        have : 2 ^ j ≤ 2 ^ 31 := Nat.pow_le_pow_right (by omega) (by omega)
        simpa using this
      simp only at hm
      have hm2 : maskTo k j < 2147483648 := by omega
      have HS := Lib.hid (maskTo_succ k j (by omega) hlt)
      generalize maskTo k j = q at *
      clear hm hp
      by_cases hjk : j < k
      · go_wp2
        exact ⟨⟨j + 1, by omega, by go_num, by rw [HS.out, if_pos hjk]; go_num⟩, by simp [intOf]; omega⟩
      · go_wp2
        exact ⟨⟨j + 1, by omega, by go_num, by rw [HS.out, if_neg (by omega)]; go_num⟩, by simp [intOf]; omega⟩
    · obtain rfl : j = 32 := by omega
      rw [maskTo_32 k (by omega)]
      go_wp2
      go_ret
      exact ⟨rfl, rfl⟩

set_option maxHeartbeats 1000000 in
theorem refLen_any (m : Nat) (w : World) (hm : m < 4294967296) :
    Calls Tryz.prog 54 #[.int .u32 m] w fun e w' => e = .returned (.tuple #[.int .i64 (lenF m).1, .int .i64 (lenF m).2]) ∧ w = w' := by
  go_enter Tryz.func54, Tryz.ntmps54
  go_wp2
  go_loop [4] (fun i => ∃ j : Nat, j ≤ 33 ∧ i = .int .i64 j ∧ ∀ k, k < j → maskF k ≠ m) (fun i => 33 - (intOf i).toNat)
  case atStart => exact ⟨0, by omega, rfl, fun k h => by omega⟩
  case round =>
    obtain ⟨j, hj, rfl, hall⟩ := hrel
    have HA := Lib.hid hall
    clear hall
    by_cases hlt : j ≤ 32
    · have hc := refMask_any j w (by omega) (by omega)
      rw [Int.toNat_natCast] at hc
      by_cases he : maskF j = m
      · have hl : lenF m = (j, 0) := by
          have := lenL_mask ⟨j, by omega⟩
          simp only at this
          unfold lenF
          rw [← he, this, if_pos rfl]
        rw [he] at hc
        have HL := Lib.hid hl
        have HC := Lib.hid hc
        have hd : ((m : Int) == m) = true := by simp
        clear hl hc he
        go_wp2_with (go_at_call 74; refine HC.out.mono ?_; rintro e w' ⟨rfl, rfl⟩)
        go_ret2
        rw [HL.out]
        exact ⟨rfl, rfl⟩
      · have hd : (((maskF j : Nat) : Int) == m) = false := by simp; omega
        have HE := Lib.hid he
        have HC := Lib.hid hc
        clear he hc
        generalize hq : maskF j = q at *
        have HQ := Lib.hid hq
        clear hq
        go_wp2_with (go_at_call 74; refine HC.out.mono ?_; rintro e w' ⟨rfl, rfl⟩)
        exact ⟨⟨j + 1, by omega, by go_num, fun k h1 => by
          rcases Nat.lt_or_ge k j with h | h
          · exact HA.out k h
          · obtain rfl : k = j := by omega
            rw [HQ.out]; exact HE.out⟩, by simp [intOf]; omega⟩
    · have hl : lenF m = (0, 120) := by
        unfold lenF
        rw [if_neg (HA.out _ (by have := lenL_le m; omega))]
      have HL := Lib.hid hl
      clear hl
      go_wp2
      go_ret2
      rw [HL.out]
      exact ⟨rfl, rfl⟩
end Go.Proofs.YtlanfceilajifaaGreatDoor
/- entry: why an entry is left out; the entry of a prefix; the prefix of an entry; the references beside. -/
namespace Go.Proofs.YtlanfceilajifaaGreatDoor
set_option linter.unusedVariables false
set_option linter.unusedSimpArgs false
open Go.RowKit
set_option maxRecDepth 100000
theorem ret_bool {a b : Bool} (h : a = b) : Ending.returned (.bool a) = .returned (.bool b) := by rw [h]
theorem ret_int {k : IntKind} {a b : Int} (h : a = b) : Ending.returned (.int k a) = .returned (.int k b) := by rw [h]

/-- is an address of a mask one that is left out? -/
def kindBad (a m : Nat) : Bool := (decide (2 ≤ kindF a) && decide (kindF a ≤ 5)) || (decide (kindF a = 1) && decide (m ≠ 0))
theorem kindF_range (a : Nat) : 1 ≤ kindF a ∧ kindF a ≤ 6 := by
  unfold kindF; repeat' split
  all_goals omega

/-- what one rule says of an entry -/
def ruleE (j : Nat) (f : Int) (a m x k : Nat) : Bool := match j with
  | 0 => decide (f ≠ 2) | 1 => decide ((lenF m).2 ≠ 0) | 2 => decide (bits .andNot .u32 (a : Int) (m : Int) ≠ 0) | 3 => kindBad a m | 4 => decide (x ≠ 0) | _ => decide (k < 1 ∨ 16 < k)
def fromE : Nat → Nat → Int → Nat → Nat → Nat → Nat → Nat
  | 0, _, _, _, _, _, _ => 0
  | n + 1, j, f, a, m, x, k => if ruleE j f a m x k then j + 1 else fromE n (j + 1) f a m x k
/-- why an entry is left out -/
def whyF (f : Int) (a m x k : Nat) : Nat := fromE 6 0 f a m x k

set_option maxHeartbeats 400000 in
theorem ruleE0 (f t : Int) (a m x k : Nat) (w : World) (ha : a < 4294967296) (hm : m < 4294967296) (hx : x < 4294967296) (hk : k < 4294967296) :
    Calls Tryz.prog 144 #[.agg #[.int .i64 f, .int .i64 t, .int .u32 a, .int .u32 m, .int .u32 x, .int .u32 k]] w fun e w' => e = .returned (.bool (ruleE 0 f a m x k)) ∧ Below w.heap.size w w' := by
  go_enter Tryz.func144, Tryz.ntmps144
  go_wp2
  go_ret
  exact ⟨ret_bool (by rw [Bool.eq_iff_iff]; simp [ruleE]), balloc (Below.refl _ _) _⟩

set_option maxHeartbeats 400000 in
theorem ruleE1 (f t : Int) (a m x k : Nat) (w : World) (ha : a < 4294967296) (hm : m < 4294967296) (hx : x < 4294967296) (hk : k < 4294967296) :
    Calls Tryz.prog 145 #[.agg #[.int .i64 f, .int .i64 t, .int .u32 a, .int .u32 m, .int .u32 x, .int .u32 k]] w fun e w' => e = .returned (.bool (ruleE 1 f a m x k)) ∧ Below w.heap.size w w' := by
  go_enter Tryz.func145, Tryz.ntmps145
  go_wp2_with (go_at_call 117; refine (len_any m _ hm).mono ?_; rintro e w' ⟨rfl, rfl⟩)
  go_ret
  exact ⟨ret_bool (by rw [Bool.eq_iff_iff]; simp [ruleE]), balloc (Below.refl _ _) _⟩

set_option maxHeartbeats 400000 in
theorem ruleE2 (f t : Int) (a m x k : Nat) (w : World) (ha : a < 4294967296) (hm : m < 4294967296) (hx : x < 4294967296) (hk : k < 4294967296) :
    Calls Tryz.prog 146 #[.agg #[.int .i64 f, .int .i64 t, .int .u32 a, .int .u32 m, .int .u32 x, .int .u32 k]] w fun e w' => e = .returned (.bool (ruleE 2 f a m x k)) ∧ Below w.heap.size w w' := by
  go_enter Tryz.func146, Tryz.ntmps146
  go_wp2
  go_ret
  exact ⟨ret_bool (by rw [Bool.eq_iff_iff]; simp [ruleE]), balloc (Below.refl _ _) _⟩

set_option maxHeartbeats 400000 in
theorem ruleE3 (f t : Int) (a m x k : Nat) (w : World) (ha : a < 4294967296) (hm : m < 4294967296) (hx : x < 4294967296) (hk : k < 4294967296) :
    Calls Tryz.prog 147 #[.agg #[.int .i64 f, .int .i64 t, .int .u32 a, .int .u32 m, .int .u32 x, .int .u32 k]] w fun e w' => e = .returned (.bool (ruleE 3 f a m x k)) ∧ Below w.heap.size w w' := by
  have hkr := kindF_range a
  have hkb : ruleE 3 f a m x k = kindBad a m := rfl
  rw [hkb]
  unfold kindBad
  have hc := fun W => kind_any a W ha
  generalize kindF a = q at *
  have HC := Lib.hid hc
  clear hc hkb
  rcases (by omega : q = 1 ∨ q = 2 ∨ q = 3 ∨ q = 4 ∨ q = 5 ∨ q = 6) with rfl | rfl | rfl | rfl | rfl | rfl
  all_goals
    go_enter Tryz.func147, Tryz.ntmps147
    go_wp2_with fail
    refine (HC.out _).mono ?_
    rintro e w1 ⟨rfl, hb⟩
    have hc3 : w1.cell? ⟨w.heap.size, 3, none⟩ = some (.int .u32 m) := (hb.cell (p := ⟨w.heap.size, 3, none⟩) (by simp)).trans (by simp)
    replace hb := bnext (balloc (Below.refl _ w) (.cells #[.int .i64 f, .int .i64 t, .int .u32 a, .int .u32 m, .int .u32 x, .int .u32 k] 57)) hb
    go_wp2_with fail
    go_ret
    refine ⟨?_, hb⟩
    exact ret_bool (by first | rfl | (rw [Bool.eq_iff_iff]; simp))

set_option maxHeartbeats 400000 in
theorem ruleE4 (f t : Int) (a m x k : Nat) (w : World) (ha : a < 4294967296) (hm : m < 4294967296) (hx : x < 4294967296) (hk : k < 4294967296) :
    Calls Tryz.prog 148 #[.agg #[.int .i64 f, .int .i64 t, .int .u32 a, .int .u32 m, .int .u32 x, .int .u32 k]] w fun e w' => e = .returned (.bool (ruleE 4 f a m x k)) ∧ Below w.heap.size w w' := by
  go_enter Tryz.func148, Tryz.ntmps148
  go_wp2
  go_ret
  exact ⟨ret_bool (by rw [Bool.eq_iff_iff]; simp [ruleE]), balloc (Below.refl _ _) _⟩

set_option maxHeartbeats 400000 in
theorem ruleE5 (f t : Int) (a m x k : Nat) (w : World) (ha : a < 4294967296) (hm : m < 4294967296) (hx : x < 4294967296) (hk : k < 4294967296) :
    Calls Tryz.prog 149 #[.agg #[.int .i64 f, .int .i64 t, .int .u32 a, .int .u32 m, .int .u32 x, .int .u32 k]] w fun e w' => e = .returned (.bool (ruleE 5 f a m x k)) ∧ Below w.heap.size w w' := by
  by_cases h1 : k < 1
  all_goals
    go_enter Tryz.func149, Tryz.ntmps149
    go_wp2
    go_ret
    refine ⟨?_, balloc (Below.refl _ _) _⟩
    exact ret_bool (by rw [Bool.eq_iff_iff]; simp [ruleE]; omega)

/-- the rules in memory -/
def entRules : Array Value := #[.int .i64 1, .func (.func 144) #[] #[], .int .i64 2, .func (.func 145) #[] #[], .int .i64 3, .func (.func 146) #[] #[], .int .i64 4, .func (.func 147) #[] #[], .int .i64 5, .func (.func 148) #[] #[], .int .i64 6, .func (.func 149) #[] #[]]
theorem entRules_any (w : World) :
    Calls Tryz.prog 116 #[] w fun e w' => e = .returned (.slice (some ⟨w.heap.size, 0, none⟩) 6 6) ∧ w' = w.alloc (.cells entRules 210) := by
  go_enter Tryz.func116, Tryz.ntmps116
  go_wp2
  go_ret
  exact ⟨rfl, rfl⟩

set_option maxHeartbeats 4000000 in
theorem why_any (f t : Int) (a m x k : Nat) (w : World) (ha : a < 4294967296) (hm : m < 4294967296) (hx : x < 4294967296) (hk : k < 4294967296) :
    Calls Tryz.prog 92 #[.agg #[.int .i64 f, .int .i64 t, .int .u32 a, .int .u32 m, .int .u32 x, .int .u32 k]] w fun e w' => e = .returned (.int .i64 (whyF f a m x k)) ∧ Below w.heap.size w w' := by
  go_enter Tryz.func92, Tryz.ntmps92
  go_wp2_with fail
  refine (entRules_any _).mono ?_
  rintro e w1 ⟨rfl, rfl⟩
  obtain ⟨w0, hw0⟩ : ∃ w0, w0 = (w.alloc (.cells #[.int .i64 f, .int .i64 t, .int .u32 a, .int .u32 m, .int .u32 x, .int .u32 k] 57)).alloc (.cells entRules 210) := ⟨_, rfl⟩
  have hB0 : Below w.heap.size w w0 := by rw [hw0]; exact balloc (balloc (Below.refl _ _) _) _
  have hK0 : Blk w0 w.heap.size 57 #[.int .i64 f, .int .i64 t, .int .u32 a, .int .u32 m, .int .u32 x, .int .u32 k] := by rw [hw0]; exact (Blk.new _ _ _).alloc _
  have hR0 : Blk w0 (w.heap.size + 1) 210 entRules := by
    rw [hw0]
    have := Blk.new (w.alloc (.cells #[.int .i64 f, .int .i64 t, .int .u32 a, .int .u32 m, .int .u32 x, .int .u32 k] 57)) 210 entRules
    simpa using this
  rw [← hw0]
  simp only [World.size_alloc]
  clear hw0
  go_wp2_with fail
  go_loopw [7] (fun i wr => ∃ j : Nat, j ≤ 6 ∧ i = .int .i64 j ∧ Below w0.heap.size w0 wr ∧ fromE (6 - j) j f a m x k = whyF f a m x k) (fun i _ => 6 - (intOf i).toNat)
  case atStart => exact ⟨0, by omega, rfl, Below.refl _ _, rfl⟩
  case round =>
    obtain ⟨j, hj, rfl, hb, hf⟩ := hrel
    have HF := Lib.hid hf
    clear hf
    have hK := hK0.below hb hK0.lt
    have hR := hR0.below hb hR0.lt
    have e0 := hK.cell 0
    have e1 := hK.cell 1
    have e2 := hK.cell 2
    have e3 := hK.cell 3
    have e4 := hK.cell 4
    have e5 := hK.cell 5
    simp at e0 e1 e2 e3 e4 e5
    have hc := fun i => hR.cell i
    have HC := Lib.hid hc
    have hB := bnext hB0 hb
    have hwz : w.heap.size < wr.heap.size := hK.lt
    clear hc hR hK
    rcases (by omega : j = 0 ∨ j = 1 ∨ j = 2 ∨ j = 3 ∨ j = 4 ∨ j = 5 ∨ j = 6) with rfl | rfl | rfl | rfl | rfl | rfl | rfl
    · have a0 := HC.out 0
      have a1 := HC.out 1
      simp [entRules] at a0 a1
      cases hr : ruleE 0 f a m x k
      · have c1 := ruleE0 f t a m x k (wr.alloc (.cells #[.int .i64 1, .func (.func 144) #[] #[]] 210)) ha hm hx hk
        have hrT := Lib.hid hr
        rw [hr] at c1
        have C1 := Lib.hid c1
        clear c1 hr
        go_wp2_with fail
        refine C1.out.mono ?_
        rintro e w2 ⟨rfl, hb2⟩
        have hbx : w2.cell? ⟨wr.heap.size, 0, none⟩ = some (.int .i64 1) := (hb2.cell (p := ⟨wr.heap.size, 0, none⟩) (by simp)).trans (by simp)
        have hbw : Below wr.heap.size wr w2 := ((Below.refl _ _).alloc (Nat.le_refl _) _).trans (hb2.mono (by simp))
        clear hb2 C1
        go_wp2_with fail
        go_roundw
        case rel => exact ⟨1, by omega, rfl, bnext hb hbw, by simp [whyF, fromE, hrT.out]⟩
        case measure => simp [intOf]
      · have c1 := ruleE0 f t a m x k (wr.alloc (.cells #[.int .i64 1, .func (.func 144) #[] #[]] 210)) ha hm hx hk
        have hrT := Lib.hid hr
        rw [hr] at c1
        have C1 := Lib.hid c1
        clear c1 hr
        go_wp2_with fail
        refine C1.out.mono ?_
        rintro e w2 ⟨rfl, hb2⟩
        have hbx : w2.cell? ⟨wr.heap.size, 0, none⟩ = some (.int .i64 1) := (hb2.cell (p := ⟨wr.heap.size, 0, none⟩) (by simp)).trans (by simp)
        have hbw : Below wr.heap.size wr w2 := ((Below.refl _ _).alloc (Nat.le_refl _) _).trans (hb2.mono (by simp))
        clear hb2 C1
        go_wp2_with fail
        go_ret
        
        exact ⟨by simp [whyF, fromE, hrT.out], bnext hB hbw⟩
    · have a0 := HC.out 2
      have a1 := HC.out 3
      simp [entRules] at a0 a1
      cases hr : ruleE 1 f a m x k
      · have c1 := ruleE1 f t a m x k (wr.alloc (.cells #[.int .i64 2, .func (.func 145) #[] #[]] 210)) ha hm hx hk
        have hrT := Lib.hid hr
        rw [hr] at c1
        have C1 := Lib.hid c1
        clear c1 hr
        go_wp2_with fail
        refine C1.out.mono ?_
        rintro e w2 ⟨rfl, hb2⟩
        have hbx : w2.cell? ⟨wr.heap.size, 0, none⟩ = some (.int .i64 2) := (hb2.cell (p := ⟨wr.heap.size, 0, none⟩) (by simp)).trans (by simp)
        have hbw : Below wr.heap.size wr w2 := ((Below.refl _ _).alloc (Nat.le_refl _) _).trans (hb2.mono (by simp))
        clear hb2 C1
        go_wp2_with fail
        go_roundw
        case rel => exact ⟨2, by omega, rfl, bnext hb hbw, by rw [← HF.out]; simp [fromE, hrT.out]⟩
        case measure => simp [intOf]
      · have c1 := ruleE1 f t a m x k (wr.alloc (.cells #[.int .i64 2, .func (.func 145) #[] #[]] 210)) ha hm hx hk
        have hrT := Lib.hid hr
        rw [hr] at c1
        have C1 := Lib.hid c1
        clear c1 hr
        go_wp2_with fail
        refine C1.out.mono ?_
        rintro e w2 ⟨rfl, hb2⟩
        have hbx : w2.cell? ⟨wr.heap.size, 0, none⟩ = some (.int .i64 2) := (hb2.cell (p := ⟨wr.heap.size, 0, none⟩) (by simp)).trans (by simp)
        have hbw : Below wr.heap.size wr w2 := ((Below.refl _ _).alloc (Nat.le_refl _) _).trans (hb2.mono (by simp))
        clear hb2 C1
        go_wp2_with fail
        go_ret
        rw [← HF.out]
        exact ⟨by simp [fromE, hrT.out], bnext hB hbw⟩
    · have a0 := HC.out 4
      have a1 := HC.out 5
      simp [entRules] at a0 a1
      cases hr : ruleE 2 f a m x k
      · have c1 := ruleE2 f t a m x k (wr.alloc (.cells #[.int .i64 3, .func (.func 146) #[] #[]] 210)) ha hm hx hk
        have hrT := Lib.hid hr
        rw [hr] at c1
        have C1 := Lib.hid c1
        clear c1 hr
        go_wp2_with fail
        refine C1.out.mono ?_
        rintro e w2 ⟨rfl, hb2⟩
        have hbx : w2.cell? ⟨wr.heap.size, 0, none⟩ = some (.int .i64 3) := (hb2.cell (p := ⟨wr.heap.size, 0, none⟩) (by simp)).trans (by simp)
        have hbw : Below wr.heap.size wr w2 := ((Below.refl _ _).alloc (Nat.le_refl _) _).trans (hb2.mono (by simp))
        clear hb2 C1
        go_wp2_with fail
        go_roundw
        case rel => exact ⟨3, by omega, rfl, bnext hb hbw, by rw [← HF.out]; simp [fromE, hrT.out]⟩
        case measure => simp [intOf]
      · have c1 := ruleE2 f t a m x k (wr.alloc (.cells #[.int .i64 3, .func (.func 146) #[] #[]] 210)) ha hm hx hk
        have hrT := Lib.hid hr
        rw [hr] at c1
        have C1 := Lib.hid c1
        clear c1 hr
        go_wp2_with fail
        refine C1.out.mono ?_
        rintro e w2 ⟨rfl, hb2⟩
        have hbx : w2.cell? ⟨wr.heap.size, 0, none⟩ = some (.int .i64 3) := (hb2.cell (p := ⟨wr.heap.size, 0, none⟩) (by simp)).trans (by simp)
        have hbw : Below wr.heap.size wr w2 := ((Below.refl _ _).alloc (Nat.le_refl _) _).trans (hb2.mono (by simp))
        clear hb2 C1
        go_wp2_with fail
        go_ret
        rw [← HF.out]
        exact ⟨by simp [fromE, hrT.out], bnext hB hbw⟩
    · have a0 := HC.out 6
      have a1 := HC.out 7
      simp [entRules] at a0 a1
      cases hr : ruleE 3 f a m x k
      · have c1 := ruleE3 f t a m x k (wr.alloc (.cells #[.int .i64 4, .func (.func 147) #[] #[]] 210)) ha hm hx hk
        have hrT := Lib.hid hr
        rw [hr] at c1
        have C1 := Lib.hid c1
        clear c1 hr
        go_wp2_with fail
        refine C1.out.mono ?_
        rintro e w2 ⟨rfl, hb2⟩
        have hbx : w2.cell? ⟨wr.heap.size, 0, none⟩ = some (.int .i64 4) := (hb2.cell (p := ⟨wr.heap.size, 0, none⟩) (by simp)).trans (by simp)
        have hbw : Below wr.heap.size wr w2 := ((Below.refl _ _).alloc (Nat.le_refl _) _).trans (hb2.mono (by simp))
        clear hb2 C1
        go_wp2_with fail
        go_roundw
        case rel => exact ⟨4, by omega, rfl, bnext hb hbw, by rw [← HF.out]; simp [fromE, hrT.out]⟩
        case measure => simp [intOf]
      · have c1 := ruleE3 f t a m x k (wr.alloc (.cells #[.int .i64 4, .func (.func 147) #[] #[]] 210)) ha hm hx hk
        have hrT := Lib.hid hr
        rw [hr] at c1
        have C1 := Lib.hid c1
        clear c1 hr
        go_wp2_with fail
        refine C1.out.mono ?_
        rintro e w2 ⟨rfl, hb2⟩
        have hbx : w2.cell? ⟨wr.heap.size, 0, none⟩ = some (.int .i64 4) := (hb2.cell (p := ⟨wr.heap.size, 0, none⟩) (by simp)).trans (by simp)
        have hbw : Below wr.heap.size wr w2 := ((Below.refl _ _).alloc (Nat.le_refl _) _).trans (hb2.mono (by simp))
        clear hb2 C1
        go_wp2_with fail
        go_ret
        rw [← HF.out]
        exact ⟨by simp [fromE, hrT.out], bnext hB hbw⟩
    · have a0 := HC.out 8
      have a1 := HC.out 9
      simp [entRules] at a0 a1
      cases hr : ruleE 4 f a m x k
      · have c1 := ruleE4 f t a m x k (wr.alloc (.cells #[.int .i64 5, .func (.func 148) #[] #[]] 210)) ha hm hx hk
        have hrT := Lib.hid hr
        rw [hr] at c1
        have C1 := Lib.hid c1
        clear c1 hr
        go_wp2_with fail
        refine C1.out.mono ?_
        rintro e w2 ⟨rfl, hb2⟩
        have hbx : w2.cell? ⟨wr.heap.size, 0, none⟩ = some (.int .i64 5) := (hb2.cell (p := ⟨wr.heap.size, 0, none⟩) (by simp)).trans (by simp)
        have hbw : Below wr.heap.size wr w2 := ((Below.refl _ _).alloc (Nat.le_refl _) _).trans (hb2.mono (by simp))
        clear hb2 C1
        go_wp2_with fail
        go_roundw
        case rel => exact ⟨5, by omega, rfl, bnext hb hbw, by rw [← HF.out]; simp [fromE, hrT.out]⟩
        case measure => simp [intOf]
      · have c1 := ruleE4 f t a m x k (wr.alloc (.cells #[.int .i64 5, .func (.func 148) #[] #[]] 210)) ha hm hx hk
        have hrT := Lib.hid hr
        rw [hr] at c1
        have C1 := Lib.hid c1
        clear c1 hr
        go_wp2_with fail
        refine C1.out.mono ?_
        rintro e w2 ⟨rfl, hb2⟩
        have hbx : w2.cell? ⟨wr.heap.size, 0, none⟩ = some (.int .i64 5) := (hb2.cell (p := ⟨wr.heap.size, 0, none⟩) (by simp)).trans (by simp)
        have hbw : Below wr.heap.size wr w2 := ((Below.refl _ _).alloc (Nat.le_refl _) _).trans (hb2.mono (by simp))
        clear hb2 C1
        go_wp2_with fail
        go_ret
        rw [← HF.out]
        exact ⟨by simp [fromE, hrT.out], bnext hB hbw⟩
    · have a0 := HC.out 10
      have a1 := HC.out 11
      simp [entRules] at a0 a1
      cases hr : ruleE 5 f a m x k
      · have c1 := ruleE5 f t a m x k (wr.alloc (.cells #[.int .i64 6, .func (.func 149) #[] #[]] 210)) ha hm hx hk
        have hrT := Lib.hid hr
        rw [hr] at c1
        have C1 := Lib.hid c1
        clear c1 hr
        go_wp2_with fail
        refine C1.out.mono ?_
        rintro e w2 ⟨rfl, hb2⟩
        have hbx : w2.cell? ⟨wr.heap.size, 0, none⟩ = some (.int .i64 6) := (hb2.cell (p := ⟨wr.heap.size, 0, none⟩) (by simp)).trans (by simp)
        have hbw : Below wr.heap.size wr w2 := ((Below.refl _ _).alloc (Nat.le_refl _) _).trans (hb2.mono (by simp))
        clear hb2 C1
        go_wp2_with fail
        go_roundw
        case rel => exact ⟨6, by omega, rfl, bnext hb hbw, by rw [← HF.out]; simp [fromE, hrT.out]⟩
        case measure => simp [intOf]
      · have c1 := ruleE5 f t a m x k (wr.alloc (.cells #[.int .i64 6, .func (.func 149) #[] #[]] 210)) ha hm hx hk
        have hrT := Lib.hid hr
        rw [hr] at c1
        have C1 := Lib.hid c1
        clear c1 hr
        go_wp2_with fail
        refine C1.out.mono ?_
        rintro e w2 ⟨rfl, hb2⟩
        have hbx : w2.cell? ⟨wr.heap.size, 0, none⟩ = some (.int .i64 6) := (hb2.cell (p := ⟨wr.heap.size, 0, none⟩) (by simp)).trans (by simp)
        have hbw : Below wr.heap.size wr w2 := ((Below.refl _ _).alloc (Nat.le_refl _) _).trans (hb2.mono (by simp))
        clear hb2 C1
        go_wp2_with fail
        go_ret
        rw [← HF.out]
        exact ⟨by simp [fromE, hrT.out], bnext hB hbw⟩
    · go_wp2_with fail
      go_ret
      rw [← HF.out]
      exact ⟨by simp [fromE], hB⟩
end Go.Proofs.YtlanfceilajifaaGreatDoor
/- entry.Bytes. -/
namespace Go.Proofs.YtlanfceilajifaaGreatDoor
set_option linter.unusedVariables false
set_option linter.unusedSimpArgs false
open Go.RowKit
set_option maxRecDepth 100000

theorem keep_alloc {W : World} {p : Addr} {v : Value} {o : Obj} (h : W.cell? p = some v) : (W.alloc o).cell? p = some v := by rw [World.cell?_alloc_lt _ _ _ (cell_lt h)]; exact h
theorem keep_drew {W : World} {p : Addr} {v : Value} (h : W.cell? p = some v) : W.drew.cell? p = some v := h
theorem WidthsAt.alloc {w : World} (h : WidthsAt w) (o : Obj) : WidthsAt (w.alloc o) := h.below ((Below.refl _ _).alloc (Nat.le_refl _) o)
theorem WidthsAt.drew {w : World} (h : WidthsAt w) : WidthsAt w.drew := h

/-- a row of slices of bytes, each readable -/
structure Piece where
  A : Option Addr
  c : Nat
  l : List UInt8
def Piece.v (p : Piece) : Value := .slice p.A p.l.length p.c

/-- the bytes of an entry -/
def entB (f t a m x k : Nat) : List UInt8 := bs 2 f ++ (bs 2 t ++ (bs 4 a ++ (bs 4 m ++ (bs 4 x ++ bs 4 k))))

theorem keepc {W W' : World} {p : Addr} {v : Value} (h : W.cell? p = some v) (hb : Below W.heap.size W W') : W'.cell? p = some v := (hb.cell (cell_lt h)).trans h
/-- six cells of an entry -/
abbrev Cells6 (g f t a m x k : Nat) (w' : World) : Prop := w'.cell? ⟨g, 0, none⟩ = some (.int .i64 f) ∧ w'.cell? ⟨g, 1, none⟩ = some (.int .i64 t) ∧ w'.cell? ⟨g, 2, none⟩ = some (.int .u32 a) ∧ w'.cell? ⟨g, 3, none⟩ = some (.int .u32 m) ∧ w'.cell? ⟨g, 4, none⟩ = some (.int .u32 x) ∧ w'.cell? ⟨g, 5, none⟩ = some (.int .u32 k)
theorem six_rd {W : World} {B C : Nat} {p1 p2 p3 p4 p5 p6 : Piece} (h1 : Rd W B p1.A (p1.l.map b8)) (h2 : Rd W B p2.A (p2.l.map b8)) (h3 : Rd W B p3.A (p3.l.map b8)) (h4 : Rd W B p4.A (p4.l.map b8)) (h5 : Rd W B p5.A (p5.l.map b8)) (h6 : Rd W B p6.A (p6.l.map b8)) (hBC : B ≤ C) :
    ∀ p ∈ [p1, p2, p3, p4, p5, p6], Rd W C p.A (p.l.map b8) := by
  intro p hp
  simp only [List.mem_cons, List.not_mem_nil, or_false] at hp
  rcases hp with rfl | rfl | rfl | rfl | rfl | rfl
  · exact h1.more hBC
  · exact h2.more hBC
  · exact h3.more hBC
  · exact h4.more hBC
  · exact h5.more hBC
  · exact h6.more hBC
theorem six_len (A1 A2 A3 A4 A5 A6 : Option Addr) (c1 c2 c3 c4 c5 c6 f t a m x k : Nat) :
    ∀ p ∈ ([⟨A1, c1, bs 2 f⟩, ⟨A2, c2, bs 2 t⟩, ⟨A3, c3, bs 4 a⟩, ⟨A4, c4, bs 4 m⟩, ⟨A5, c5, bs 4 x⟩, ⟨A6, c6, bs 4 k⟩] : List Piece), p.l.length ≤ 1000 := by
  intro p hp
  simp only [List.mem_cons, List.not_mem_nil, or_false] at hp
  rcases hp with rfl | rfl | rfl | rfl | rfl | rfl <;> simp [bs_length]
theorem Rd.next {w w' : World} {A : Option Addr} {xs : List Value} (h : Rd w w.heap.size A xs) (hb : Below w.heap.size w w') : Rd w' w'.heap.size A xs := (h.below hb).more hb.size
theorem size_le_alloc (w : World) (o : Obj) : w.heap.size ≤ (w.alloc o).heap.size := by simp
theorem Rd.newS (w : World) (t : TypeId) (cs : Array Value) (ys : List Value) (h : cs = ys.toArray) : Rd (w.alloc (.cells cs t)) (w.alloc (.cells cs t)).heap.size (some ⟨w.heap.size, 0, none⟩) ys := (Rd.newL w t cs ys h).more (by simp)
theorem six_cells (A1 A2 A3 A4 A5 A6 : Option Addr) (c1 c2 c3 c4 c5 c6 f t a m x k : Nat) :
    #[Value.slice A1 2 c1, .slice A2 2 c2, .slice A3 4 c3, .slice A4 4 c4, .slice A5 4 c5, .slice A6 4 c6] = (([⟨A1, c1, bs 2 f⟩, ⟨A2, c2, bs 2 t⟩, ⟨A3, c3, bs 4 a⟩, ⟨A4, c4, bs 4 m⟩, ⟨A5, c5, bs 4 x⟩, ⟨A6, c6, bs 4 k⟩] : List Piece).map Piece.v).toArray := by
  simp [Piece.v, bs_length]
end Go.Proofs.YtlanfceilajifaaGreatDoor
/- entry: Of, Prefix, All, Name, and the references. -/
namespace Go.Proofs.YtlanfceilajifaaGreatDoor
set_option linter.unusedVariables false
set_option linter.unusedSimpArgs false
open Go.RowKit
set_option maxRecDepth 100000

theorem whyF_zero (f : Int) (a m x k : Nat) : whyF f a m x k = 0 ↔ (f = 2 ∧ (lenF m).2 = 0 ∧ bits .andNot .u32 (a : Int) (m : Int) = 0 ∧ kindBad a m = false ∧ x = 0 ∧ 1 ≤ k ∧ k ≤ 16) := by
  unfold whyF
  simp only [fromE, ruleE]
  repeat' split
  all_goals simp_all
  all_goals omega

/-- the prefix of an entry, and the error -/
def prefF (f : Int) (a m x k : Nat) : (Nat × Nat) × Int := if whyF f a m x k = 0 then ((a, (lenF m).1), 0) else ((0, 0), 140)

set_option maxHeartbeats 1000000 in
theorem prefix_any (f t : Int) (a m x k : Nat) (w : World) (ha : a < 4294967296) (hm : m < 4294967296) (hx : x < 4294967296) (hk : k < 4294967296) :
    Calls Tryz.prog 93 #[.agg #[.int .i64 f, .int .i64 t, .int .u32 a, .int .u32 m, .int .u32 x, .int .u32 k]] w fun e w' =>
      e = .returned (.tuple #[.agg #[.int .u32 (prefF f a m x k).1.1, .int .i64 (prefF f a m x k).1.2], .int .i64 (prefF f a m x k).2]) ∧ Below w.heap.size w w' := by
  have hW := fun W => why_any f t a m x k W ha hm hx hk
  have hL := fun W => len_any m W hm
  have HP := Lib.hid (show prefF f a m x k = if whyF f a m x k = 0 then ((a, (lenF m).1), 0) else ((0, 0), 140) from rfl)
  generalize whyF f a m x k = q at *
  generalize lenF m = lf at *
  generalize prefF f a m x k = pf at *
  obtain ⟨l1, l2⟩ := lf
  have CW := Lib.hid hW
  have CL := Lib.hid hL
  clear hW hL
  by_cases hq : q = 0
  · subst hq
    have HP2 : Hid (pf = ((a, l1), 0)) := Lib.hid (by rw [HP.out, if_pos rfl])
    clear HP
    go_enter Tryz.func93, Tryz.ntmps93
    go_wp2_with fail
    refine (CW.out _).mono ?_
    rintro e w1 ⟨rfl, hb⟩
    have c3 := keepc (W := (w.alloc (.cells #[.int .i64 f, .int .i64 t, .int .u32 a, .int .u32 m, .int .u32 x, .int .u32 k] 57)).alloc (.cells #[.int .u32 0, .int .i64 0] 86)) (p := ⟨w.heap.size, 3, none⟩) (v := .int .u32 m) (by simp) hb
    have c2 := keepc (W := (w.alloc (.cells #[.int .i64 f, .int .i64 t, .int .u32 a, .int .u32 m, .int .u32 x, .int .u32 k] 57)).alloc (.cells #[.int .u32 0, .int .i64 0] 86)) (p := ⟨w.heap.size, 2, none⟩) (v := .int .u32 a) (by simp) hb
    have hB := Blk.new (w.alloc (.cells #[.int .i64 f, .int .i64 t, .int .u32 a, .int .u32 m, .int .u32 x, .int .u32 k] 57)) 86 #[.int .u32 0, .int .i64 0]
    have hB1 := hB.below hb (by simp)
    simp only [World.size_alloc] at hB1
    have d0 := hB1.cell 0
    have d1 := hB1.cell 1
    have f0 := hB1.frozen 0
    have f1 := hB1.frozen 1
    simp at d0 d1
    have hb2 := bnext (balloc (balloc (Below.refl _ w) (.cells #[.int .i64 f, .int .i64 t, .int .u32 a, .int .u32 m, .int .u32 x, .int .u32 k] 57)) (.cells #[.int .u32 0, .int .i64 0] 86)) hb
    clear hb hB hB1
    go_wp2_with (go_at_call 117; refine (CL.out _).mono ?_; rintro e w' ⟨rfl, rfl⟩)
    refine bodyPost_ret (v := .tuple #[.agg #[.int .u32 a, .int .i64 l1], .int .i64 0]) (by simp [results, Tryz.results93, go_sem, d0, d1]) rfl ?_
    rw [HP2.out]
    exact ⟨rfl, (hb2.setCell (p := ⟨w.heap.size + 1, 0, none⟩) (by simp) _).setCell (p := ⟨w.heap.size + 1, 1, none⟩) (by simp) _⟩
  · have HP2 : Hid (pf = ((0, 0), 140)) := Lib.hid (by rw [HP.out, if_neg hq])
    have hd : ((q : Int) != 0) = true := by simp; omega
    clear HP hq
    go_enter Tryz.func93, Tryz.ntmps93
    go_wp2_with fail
    refine (CW.out _).mono ?_
    rintro e w1 ⟨rfl, hb⟩
    have hB := Blk.new (w.alloc (.cells #[.int .i64 f, .int .i64 t, .int .u32 a, .int .u32 m, .int .u32 x, .int .u32 k] 57)) 86 #[.int .u32 0, .int .i64 0]
    have hB1 := hB.below hb (by simp)
    simp only [World.size_alloc] at hB1
    have d0 := hB1.cell 0
    have d1 := hB1.cell 1
    have f0 := hB1.frozen 0
    have f1 := hB1.frozen 1
    simp at d0 d1
    have hb2 := bnext (balloc (balloc (Below.refl _ w) (.cells #[.int .i64 f, .int .i64 t, .int .u32 a, .int .u32 m, .int .u32 x, .int .u32 k] 57)) (.cells #[.int .u32 0, .int .i64 0] 86)) hb
    clear hb hB hB1
    go_wp2_with fail
    refine bodyPost_ret (v := .tuple #[.agg #[.int .u32 0, .int .i64 0], .int .i64 140]) (by simp [results, Tryz.results93, go_sem, d0, d1]) rfl ?_
    rw [HP2.out]
    exact ⟨rfl, (hb2.setCell (p := ⟨w.heap.size + 1, 0, none⟩) (by simp) _).setCell (p := ⟨w.heap.size + 1, 1, none⟩) (by simp) _⟩

set_option maxHeartbeats 1000000 in
/-- the reference's kind -/
theorem refKind_any (a : Nat) (w : World) (ha : a < 4294967296) :
    Calls Tryz.prog 71 #[.int .u32 a] w fun e w' => e = .returned (.int .i64 (kindF a)) ∧ Below w.heap.size w w' := by
  have hK : kindF a = if a = 0 then 1 else if a / 16777216 = 0 then 2 else if a / 16777216 = 127 then 3 else if 224 ≤ a / 16777216 ∧ a / 16777216 ≤ 239 then 4 else if 240 ≤ a / 16777216 then 5 else 6 := rfl
  by_cases h1 : a = 0
  · rw [if_pos h1] at hK
    rw [hK]
    subst h1
    clear hK
    go_enter Tryz.func71, Tryz.ntmps71
    go_wp2
    go_ret
    exact ⟨rfl, by go_grown⟩
  have g1 : ((a : Int) == 0) = false := by simp; omega
  rw [if_neg h1] at hK
  by_cases h2 : a / 16777216 = 0
  · rw [if_pos h2] at hK
    rw [hK]
    have g2 : (((a : Int) / 16777216) == 0) = true := by simp; omega
    clear hK h2 h1
    go_enter Tryz.func71, Tryz.ntmps71
    go_wp2
    go_ret
    exact ⟨rfl, by go_grown⟩
  have g2 : (((a : Int) / 16777216) == 0) = false := by simp; omega
  rw [if_neg h2] at hK
  by_cases h3 : a / 16777216 = 127
  · rw [if_pos h3] at hK
    rw [hK]
    have g3 : (((a : Int) / 16777216) == 127) = true := by simp; omega
    clear hK h3 h2 h1
    go_enter Tryz.func71, Tryz.ntmps71
    go_wp2
    go_ret
    exact ⟨rfl, by go_grown⟩
  have g3 : (((a : Int) / 16777216) == 127) = false := by simp; omega
  rw [if_neg h3] at hK
  by_cases h4 : 224 ≤ a / 16777216 ∧ a / 16777216 ≤ 239
  · rw [if_pos h4] at hK
    rw [hK]
    have g4 : 224 ≤ (a : Int) / 16777216 := by omega
    have g5 : (a : Int) / 16777216 ≤ 239 := by omega
    clear hK h4 h3 h2 h1
    go_enter Tryz.func71, Tryz.ntmps71
    go_wp2
    go_ret
    exact ⟨rfl, by go_grown⟩
  rw [if_neg h4] at hK
  by_cases h5 : 240 ≤ a / 16777216
  · rw [if_pos h5] at hK
    rw [hK]
    have g4 : 224 ≤ (a : Int) / 16777216 := by omega
    have g5 : ¬ (a : Int) / 16777216 ≤ 239 := by omega
    have g6 : 240 ≤ (a : Int) / 16777216 := by omega
    clear hK h5 h4 h3 h2 h1
    go_enter Tryz.func71, Tryz.ntmps71
    go_wp2
    go_ret
    exact ⟨rfl, by go_grown⟩
  · rw [if_neg h5] at hK
    rw [hK]
    have g4 : ¬ 224 ≤ (a : Int) / 16777216 := by omega
    have g6 : ¬ 240 ≤ (a : Int) / 16777216 := by omega
    clear hK h5 h4 h3 h2 h1
    go_enter Tryz.func71, Tryz.ntmps71
    go_wp2
    go_ret
    exact ⟨rfl, by go_grown⟩

set_option maxHeartbeats 1000000 in
theorem refBad_any (a m : Nat) (w : World) (ha : a < 4294967296) (hm : m < 4294967296) :
    Calls Tryz.prog 56 #[.int .u32 a, .int .u32 m] w fun e w' => e = .returned (.bool (kindBad a m)) ∧ Below w.heap.size w w' := by
  have hkr := kindF_range a
  unfold kindBad
  have hc := fun W => refKind_any a W ha
  generalize kindF a = q at *
  have HC := Lib.hid hc
  clear hc
  rcases (by omega : q = 1 ∨ q = 2 ∨ q = 3 ∨ q = 4 ∨ q = 5 ∨ q = 6) with rfl | rfl | rfl | rfl | rfl | rfl
  all_goals
    go_enter Tryz.func56, Tryz.ntmps56
    go_wp2_with fail
    refine (HC.out _).mono ?_
    rintro e w1 ⟨rfl, hb⟩
    go_wp2_with fail
    go_ret
    exact ⟨ret_bool (by first | rfl | (rw [Bool.eq_iff_iff]; simp)), hb⟩
end Go.Proofs.YtlanfceilajifaaGreatDoor
/- entry: Of, All, Name, and the references. -/
namespace Go.Proofs.YtlanfceilajifaaGreatDoor
set_option linter.unusedVariables false
set_option linter.unusedSimpArgs false
open Go.RowKit
set_option maxRecDepth 100000

theorem whyF_eq (f : Int) (a m x k : Nat) : whyF f a m x k = if f ≠ 2 then 1 else if (lenF m).2 ≠ 0 then 2 else if bits .andNot .u32 (a : Int) (m : Int) ≠ 0 then 3 else if kindBad a m = true then 4 else if x ≠ 0 then 5 else if k < 1 ∨ 16 < k then 6 else 0 := by
  simp only [whyF, fromE, ruleE, decide_eq_true_eq]
theorem lenF_ok (m : Nat) (h : (lenF m).2 = 0) : m = maskF (lenF m).1 ∧ (lenF m).1 ≤ 32 := by
  unfold lenF at h ⊢
  by_cases h1 : maskF (lenL m) = m
  · rw [if_pos h1]; exact ⟨h1.symm, lenL_le m⟩
  · rw [if_neg h1] at h; simp at h
theorem okP_bits (a m : Nat) (ha : a < 4294967296) (h : (lenF m).2 = 0) : okP (a, ((lenF m).1 : Int)) = decide (bits .andNot .u32 (a : Int) (m : Int) = 0) := by
  obtain ⟨h1, h2⟩ := lenF_ok m h
  generalize (lenF m).1 = n at *
  subst h1
  rw [andNot_mask a n ha h2]
  simp only [okP, Int.toNat_natCast]
  rw [decide_eq_decide]
  constructor
  · rintro ⟨_, _, h⟩; rw [h]; rfl
  · intro h; exact ⟨by omega, by omega, Int.natCast_eq_zero.1 h⟩

set_option maxHeartbeats 2000000 in
theorem refWhy_any (f t : Int) (a m x k : Nat) (w : World) (ha : a < 4294967296) (hm : m < 4294967296) (hx : x < 4294967296) (hk : k < 4294967296) :
    Calls Tryz.prog 20 #[.agg #[.int .i64 f, .int .i64 t, .int .u32 a, .int .u32 m, .int .u32 x, .int .u32 k]] w fun e w' => e = .returned (.int .i64 (whyF f a m x k)) ∧ Below w.heap.size w w' := by
  have hW := whyF_eq f a m x k
  have hO := okP_bits a m ha
  have hL := fun W => refLen_any m W hm
  have hR := fun W => refRight_any a (lenF m).1 W ha
  have hB := fun W => refBad_any a m W ha hm
  generalize whyF f a m x k = q at *
  generalize lenF m = lf at *
  obtain ⟨l1, l2⟩ := lf
  simp only at hL hR hO hW
  generalize kindBad a m = kb at *
  generalize okP (a, (l1 : Int)) = ok at *
  generalize bits .andNot .u32 (a : Int) (m : Int) = z at *
  have CL := Lib.hid hL
  have CR := Lib.hid hR
  have CB := Lib.hid hB
  clear hL hR hB
  have hE := Blk.new w 57 #[.int .i64 f, .int .i64 t, .int .u32 a, .int .u32 m, .int .u32 x, .int .u32 k]
  have HE := Lib.hid hE
  clear hE
  by_cases h1 : f = 2
  case neg =>
    rw [if_pos h1] at hW
    have g1 : (f != 2) = true := by simpa using h1
    have HW := Lib.hid hW
    clear hW h1 hO
    go_enter Tryz.func20, Tryz.ntmps20
    go_wp2_with (go_at_call 54; refine (CL.out _).mono ?_; rintro e w' ⟨rfl, rfl⟩)
    go_ret
    rw [HW.out]
    exact ⟨rfl, balloc (Below.refl _ _) _⟩
  case pos =>
  rw [if_neg (by simpa using h1)] at hW
  subst h1
  by_cases h2 : l2 = 0
  case neg =>
    rw [if_pos h2] at hW
    have g1 : (l2 != 0) = true := by simpa using h2
    have HW := Lib.hid hW
    clear hW h2 hO
    go_enter Tryz.func20, Tryz.ntmps20
    go_wp2_with (go_at_call 54; refine (CL.out _).mono ?_; rintro e w' ⟨rfl, rfl⟩)
    go_ret
    rw [HW.out]
    exact ⟨rfl, balloc (Below.refl _ _) _⟩
  case pos =>
  rw [if_neg (by simpa using h2)] at hW
  have hok := hO h2
  subst h2
  clear hO
  by_cases h3 : z = 0
  case neg =>
    rw [if_pos h3] at hW
    rw [decide_eq_false h3] at hok
    subst hok
    have HW := Lib.hid hW
    clear hW h3
    go_enter Tryz.func20, Tryz.ntmps20
    go_wp2_with (first
      | (go_at_call 54; refine (CL.out _).mono ?_; rintro e w' ⟨rfl, rfl⟩)
      | (go_at_call 55; refine (CR.out _).mono ?_; rintro e w1 ⟨rfl, b1⟩))
    go_ret
    rw [HW.out]
    exact ⟨rfl, bnext (balloc (Below.refl _ _) _) b1⟩
  case pos =>
  rw [if_neg (by simpa using h3)] at hW
  rw [decide_eq_true h3] at hok
  subst hok
  clear h3
  cases kb
  case true =>
    rw [if_pos rfl] at hW
    have HW := Lib.hid hW
    clear hW
    go_enter Tryz.func20, Tryz.ntmps20
    go_wp2_with (first
      | (go_at_call 54; refine (CL.out _).mono ?_; rintro e w' ⟨rfl, rfl⟩)
      | (go_at_call 55; refine (CR.out _).mono ?_; rintro e w1 ⟨rfl, b1⟩; have hE1 := HE.out.below b1 (by simp); have e2 := hE1.cell 2; have e3 := hE1.cell 3; simp at e2 e3; clear hE1)
      | (go_at_call 56; refine (CB.out _).mono ?_; rintro e w2 ⟨rfl, b2⟩))
    go_ret
    rw [HW.out]
    exact ⟨rfl, bnext (bnext (balloc (Below.refl _ _) _) b1) b2⟩
  case false =>
  rw [if_neg (by simp)] at hW
  by_cases h5 : x = 0
  case neg =>
    rw [if_pos h5] at hW
    have g5 : ((x : Int) != 0) = true := by simp; omega
    have HW := Lib.hid hW
    clear hW h5
    go_enter Tryz.func20, Tryz.ntmps20
    go_wp2_with (first
      | (go_at_call 54; refine (CL.out _).mono ?_; rintro e w' ⟨rfl, rfl⟩)
      | (go_at_call 55; refine (CR.out _).mono ?_; rintro e w1 ⟨rfl, b1⟩; have hE1 := HE.out.below b1 (by simp); have e2 := hE1.cell 2; have e3 := hE1.cell 3; simp at e2 e3; clear hE1)
      | (go_at_call 56; refine (CB.out _).mono ?_; rintro e w2 ⟨rfl, b2⟩; have hE2 := (HE.out.below b1 (by simp)).below b2 (by have := b1.size; simp at this; omega); have e4 := hE2.cell 4; simp at e4; clear hE2))
    go_ret
    rw [HW.out]
    exact ⟨rfl, bnext (bnext (balloc (Below.refl _ _) _) b1) b2⟩
  case pos =>
  rw [if_neg (by simpa using h5)] at hW
  subst h5
  rcases (by omega : k < 1 ∨ (¬ k < 1 ∧ 16 < k) ∨ (¬ k < 1 ∧ ¬ 16 < k)) with h6 | ⟨h6, h7⟩ | ⟨h6, h7⟩
  all_goals
    have HW : Hid (q = if k < 1 ∨ 16 < k then 6 else 0) := Lib.hid hW
    clear hW
    go_enter Tryz.func20, Tryz.ntmps20
    go_wp2_with (first
      | (go_at_call 54; refine (CL.out _).mono ?_; rintro e w' ⟨rfl, rfl⟩)
      | (go_at_call 55; refine (CR.out _).mono ?_; rintro e w1 ⟨rfl, b1⟩; have hE1 := HE.out.below b1 (by simp); have e2 := hE1.cell 2; have e3 := hE1.cell 3; simp at e2 e3; clear hE1)
      | (go_at_call 56; refine (CB.out _).mono ?_; rintro e w2 ⟨rfl, b2⟩; have hE2 := (HE.out.below b1 (by simp)).below b2 (by have := b1.size; simp at this; omega); have e4 := hE2.cell 4; have e5 := hE2.cell 5; simp at e4 e5; clear hE2))
    go_ret
    rw [HW.out]
    exact ⟨by first | (rw [if_pos (by omega)]; rfl) | (rw [if_neg (by omega)]; rfl), bnext (bnext (balloc (Below.refl _ _) _) b1) b2⟩

/-- may the entry of a prefix be told? -/
def okOf (a : Nat) (n me : Int) : Bool := okP (a, n) && decide (1 ≤ me ∧ me ≤ 16) && !kindBad a (maskF n.toNat)
/-- the entry of a prefix, as a value, and the error -/
def ofV (a : Nat) (n me : Int) : Value := if okOf a n me then .tuple #[.agg #[.int .i64 2, .int .i64 0, .int .u32 a, .int .u32 (maskF n.toNat), .int .u32 0, .int .u32 me], .int .i64 0] else .tuple #[.agg #[.int .i64 0, .int .i64 0, .int .u32 0, .int .u32 0, .int .u32 0, .int .u32 0], .int .i64 2]
theorem lenF_mask (n : Nat) (hn : n ≤ 32) : lenF (maskF n) = (n, 0) := by
  have := lenL_mask ⟨n, by omega⟩
  simp only at this
  unfold lenF
  rw [this, if_pos rfl]
theorem whyF_of (a n me : Nat) (ha : a < 4294967296) (hn : n ≤ 32) (hz : a % 2 ^ (32 - n) = 0) (h1 : 1 ≤ me) (h2 : me ≤ 16) : whyF 2 a (maskF n) 0 me = if kindBad a (maskF n) then 4 else 0 := by
  rw [whyF_eq, if_neg (by simp), lenF_mask n hn, if_neg (by simp), andNot_mask a n ha hn, hz, if_neg (by simp)]
  cases kindBad a (maskF n) <;> simp
  omega

end Go.Proofs.YtlanfceilajifaaGreatDoor
/- entry: Name, All; the references of Of and Prefix. -/
namespace Go.Proofs.YtlanfceilajifaaGreatDoor
set_option linter.unusedVariables false
set_option linter.unusedSimpArgs false
open Go.RowKit
set_option maxRecDepth 100000

/-- a reason's name -/
def nameF (r : Int) : ByteArray :=
  if r = 0 then ⟨#[102, 105, 110, 101]⟩ else if r = 1 then ⟨#[102, 97, 109, 105, 108, 121]⟩ else if r = 2 then ⟨#[109, 97, 115, 107]⟩ else if r = 3 then ⟨#[98, 105, 116, 115]⟩ else if r = 4 then ⟨#[107, 105, 110, 100]⟩ else if r = 5 then ⟨#[110, 101, 120, 116]⟩ else if r = 6 then ⟨#[109, 101, 116, 114, 105, 99]⟩ else ⟨#[]⟩

set_option maxHeartbeats 1000000 in
theorem refPrefix_any (f t : Int) (a m x k : Nat) (w : World) (ha : a < 4294967296) (hm : m < 4294967296) (hx : x < 4294967296) (hk : k < 4294967296) :
    Calls Tryz.prog 50 #[.agg #[.int .i64 f, .int .i64 t, .int .u32 a, .int .u32 m, .int .u32 x, .int .u32 k]] w fun e w' =>
      e = .returned (.tuple #[.agg #[.int .u32 (prefF f a m x k).1.1, .int .i64 (prefF f a m x k).1.2], .int .i64 (prefF f a m x k).2]) ∧ Below w.heap.size w w' := by
  have hW := fun W => refWhy_any f t a m x k W ha hm hx hk
  have hL := fun W => refLen_any m W hm
  have HP := Lib.hid (show prefF f a m x k = if whyF f a m x k = 0 then ((a, (lenF m).1), 0) else ((0, 0), 140) from rfl)
  generalize whyF f a m x k = q at *
  generalize lenF m = lf at *
  generalize prefF f a m x k = pf at *
  obtain ⟨l1, l2⟩ := lf
  have CW := Lib.hid hW
  have CL := Lib.hid hL
  clear hW hL
  by_cases hq : q = 0
  · subst hq
    have HP2 : Hid (pf = ((a, l1), 0)) := Lib.hid (by rw [HP.out, if_pos rfl])
    clear HP
    go_enter Tryz.func50, Tryz.ntmps50
    go_wp2_with fail
    refine (CW.out _).mono ?_
    rintro e w1 ⟨rfl, hb⟩
    have c3 := keepc (W := (w.alloc (.cells #[.int .i64 f, .int .i64 t, .int .u32 a, .int .u32 m, .int .u32 x, .int .u32 k] 57)).alloc (.cells #[.int .u32 0, .int .i64 0] 86)) (p := ⟨w.heap.size, 3, none⟩) (v := .int .u32 m) (by simp) hb
    have c2 := keepc (W := (w.alloc (.cells #[.int .i64 f, .int .i64 t, .int .u32 a, .int .u32 m, .int .u32 x, .int .u32 k] 57)).alloc (.cells #[.int .u32 0, .int .i64 0] 86)) (p := ⟨w.heap.size, 2, none⟩) (v := .int .u32 a) (by simp) hb
    have hB := Blk.new (w.alloc (.cells #[.int .i64 f, .int .i64 t, .int .u32 a, .int .u32 m, .int .u32 x, .int .u32 k] 57)) 86 #[.int .u32 0, .int .i64 0]
    have hB1 := hB.below hb (by simp)
    simp only [World.size_alloc] at hB1
    have d0 := hB1.cell 0
    have d1 := hB1.cell 1
    have f0 := hB1.frozen 0
    have f1 := hB1.frozen 1
    simp at d0 d1
    have hb2 := bnext (balloc (balloc (Below.refl _ w) (.cells #[.int .i64 f, .int .i64 t, .int .u32 a, .int .u32 m, .int .u32 x, .int .u32 k] 57)) (.cells #[.int .u32 0, .int .i64 0] 86)) hb
    clear hb hB hB1
    go_wp2_with (go_at_call 54; refine (CL.out _).mono ?_; rintro e w' ⟨rfl, rfl⟩)
    refine bodyPost_ret (v := .tuple #[.agg #[.int .u32 a, .int .i64 l1], .int .i64 0]) (by simp [results, Tryz.results50, go_sem, d0, d1]) rfl ?_
    rw [HP2.out]
    exact ⟨rfl, by go_grown⟩
  · have HP2 : Hid (pf = ((0, 0), 140)) := Lib.hid (by rw [HP.out, if_neg hq])
    have hd : ((q : Int) != 0) = true := by simp; omega
    clear HP hq
    go_enter Tryz.func50, Tryz.ntmps50
    go_wp2_with fail
    refine (CW.out _).mono ?_
    rintro e w1 ⟨rfl, hb⟩
    have hB := Blk.new (w.alloc (.cells #[.int .i64 f, .int .i64 t, .int .u32 a, .int .u32 m, .int .u32 x, .int .u32 k] 57)) 86 #[.int .u32 0, .int .i64 0]
    have hB1 := hB.below hb (by simp)
    simp only [World.size_alloc] at hB1
    have d0 := hB1.cell 0
    have d1 := hB1.cell 1
    have f0 := hB1.frozen 0
    have f1 := hB1.frozen 1
    simp at d0 d1
    have hb2 := bnext (balloc (balloc (Below.refl _ w) (.cells #[.int .i64 f, .int .i64 t, .int .u32 a, .int .u32 m, .int .u32 x, .int .u32 k] 57)) (.cells #[.int .u32 0, .int .i64 0] 86)) hb
    clear hb hB hB1
    go_wp2_with fail
    refine bodyPost_ret (v := .tuple #[.agg #[.int .u32 0, .int .i64 0], .int .i64 140]) (by simp [results, Tryz.results50, go_sem, d0, d1]) rfl ?_
    rw [HP2.out]
    exact ⟨rfl, by go_grown⟩

set_option maxHeartbeats 1000000 in
theorem refOne_any (a n me : Nat) (w : World) (ha : a < 4294967296) (hn : n ≤ 32) (hm : me < 4294967296) :
    Calls Tryz.prog 35 #[.agg #[.int .u32 a, .int .i64 n], .int .i64 me] w fun e w' => e = .returned (.agg #[.int .i64 2, .int .i64 0, .int .u32 a, .int .u32 (maskF n), .int .u32 0, .int .u32 me]) ∧ Below w.heap.size w w' := by
  have hM : ∀ W, Calls Tryz.prog 74 #[.int .i64 n] W fun e w' => e = .returned (.int .u32 (maskF n)) ∧ W = w' := fun W => by
    have := refMask_any n W (by omega) (by omega)
    rwa [Int.toNat_natCast] at this
  have hwm : IntKind.u32.wrap (me : Int) = me := IntWalk.u32_in _ ⟨by omega, by omega⟩
  have HM := Lib.hid hM
  clear hM
  generalize maskF n = mk at *
  have hP := (Blk.new w 86 #[.int .u32 a, .int .i64 n]).alloc (.cells #[.int .i64 0, .int .i64 0, .int .u32 0, .int .u32 0, .int .u32 0, .int .u32 0] 57)
  have e0 := hP.cell 0
  have e1 := hP.cell 1
  simp only [List.getElem?_toArray, List.getElem?_cons_zero, List.getElem?_cons_succ] at e0 e1
  go_enter Tryz.func35, Tryz.ntmps35
  go_wp2_with fail
  go_region_held3 (fun w' => w'.cell? ⟨w.heap.size, 0, none⟩ = some (.int .u32 a) ∧ w'.cell? ⟨w.heap.size, 1, none⟩ = some (.int .i64 n)) (first | exact ⟨e0, e1⟩ | go_keep)
    (first | (go_at_call 74; refine (HM.out _).mono ?_; rintro e w' ⟨rfl, rfl⟩))
  go_wp2
  go_returns
  exact ⟨rfl, by go_grown⟩

end Go.Proofs.YtlanfceilajifaaGreatDoor
/- '==' and '!=' of two prefixes, and of two entries. -/
namespace Go.Proofs.YtlanfceilajifaaGreatDoor
set_option linter.unusedVariables false
set_option linter.unusedSimpArgs false
open Go.RowKit

theorem eq_pfx (a b n m : Int) (w : World) : (binOp .eql 86 (.agg #[.int .u32 a, .int .i64 n]) (.agg #[.int .u32 b, .int .i64 m])).run Tryz.prog w = .ok (.bool (a == b && n == m)) w := by
  have h1 : Tryz.prog.underlying 86 = some (.struct (Tryz.prog.fieldsOf 86)) := by simp [Program.fieldsOf, Tryz.underlying86]
  have h2 := run_equalIn_struct (P := Tryz.prog) w 9999 86 #[.int .u32 a, .int .i64 n] #[.int .u32 b, .int .i64 m] h1 (by kernel_rfl)
  simp only [binOp]
  simp only [Op.equal, Op.maxDepth, Sem.run_bind, h2]
  by_cases ha : a = b <;> by_cases hn : n = m <;> simp [go_sem, ha, hn]
theorem ne_ent (f t a m x k f' t' a' m' x' k' : Int) (w : World) : (binOp .neq 57 (.agg #[.int .i64 f, .int .i64 t, .int .u32 a, .int .u32 m, .int .u32 x, .int .u32 k]) (.agg #[.int .i64 f', .int .i64 t', .int .u32 a', .int .u32 m', .int .u32 x', .int .u32 k'])).run Tryz.prog w =
    .ok (.bool (!(f == f' && t == t' && a == a' && m == m' && x == x' && k == k'))) w := by
  have h1 : Tryz.prog.underlying 57 = some (.struct (Tryz.prog.fieldsOf 57)) := by simp [Program.fieldsOf, Tryz.underlying57]
  have h2 := run_equalIn_struct (P := Tryz.prog) w 9999 57 #[.int .i64 f, .int .i64 t, .int .u32 a, .int .u32 m, .int .u32 x, .int .u32 k] #[.int .i64 f', .int .i64 t', .int .u32 a', .int .u32 m', .int .u32 x', .int .u32 k'] h1 (by kernel_rfl)
  simp only [binOp]
  simp only [Op.equal, Op.maxDepth, Sem.run_bind, h2]
  by_cases e1 : f = f' <;> simp [go_sem, e1]
  by_cases e2 : t = t' <;> simp [go_sem, e2]
  by_cases e3 : a = a' <;> simp [go_sem, e3]
  by_cases e4 : m = m' <;> simp [go_sem, e4]
  by_cases e5 : x = x' <;> simp [go_sem, e5]
  by_cases e6 : k = k' <;> simp [go_sem, e6]
theorem eq_ent (f t a m x k f' t' a' m' x' k' : Int) (w : World) : (binOp .eql 57 (.agg #[.int .i64 f, .int .i64 t, .int .u32 a, .int .u32 m, .int .u32 x, .int .u32 k]) (.agg #[.int .i64 f', .int .i64 t', .int .u32 a', .int .u32 m', .int .u32 x', .int .u32 k'])).run Tryz.prog w =
    .ok (.bool (f == f' && t == t' && a == a' && m == m' && x == x' && k == k')) w := by
  have h1 : Tryz.prog.underlying 57 = some (.struct (Tryz.prog.fieldsOf 57)) := by simp [Program.fieldsOf, Tryz.underlying57]
  have h2 := run_equalIn_struct (P := Tryz.prog) w 9999 57 #[.int .i64 f, .int .i64 t, .int .u32 a, .int .u32 m, .int .u32 x, .int .u32 k] #[.int .i64 f', .int .i64 t', .int .u32 a', .int .u32 m', .int .u32 x', .int .u32 k'] h1 (by kernel_rfl)
  simp only [binOp]
  simp only [Op.equal, Op.maxDepth, Sem.run_bind, h2]
  by_cases e1 : f = f' <;> simp [go_sem, e1]
  by_cases e2 : t = t' <;> simp [go_sem, e2]
  by_cases e3 : a = a' <;> simp [go_sem, e3]
  by_cases e4 : m = m' <;> simp [go_sem, e4]
  by_cases e5 : x = x' <;> simp [go_sem, e5]
  by_cases e6 : k = k' <;> simp [go_sem, e6]
end Go.Proofs.YtlanfceilajifaaGreatDoor
