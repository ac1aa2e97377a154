/- The references of prefix: what each answers. -/
import Derived.Test.YtgjeejdebneoaaaDoorPfx
namespace Go.Proofs.YtgjeejdebneoaaaDoor
set_option linter.unusedVariables false
set_option linter.unusedSimpArgs false
open Go.RowKit
set_option maxRecDepth 100000

/-- a bit of an address -/
def bitF (a i : Nat) : Nat := a / 2 ^ (31 - i) % 2
set_option maxHeartbeats 400000 in
theorem bit_any (a : Nat) (i : Int) (w : World) (ha : a < 4294967296) (h0 : 0 ≤ i) (h1 : i ≤ 31) :
    Calls Tryd.prog 68 #[.int .u32 a, .int .i64 i] w fun e w' => e = .returned (.int .i64 (bitF a i.toNat)) ∧ w = w' := by
  obtain ⟨i, rfl⟩ := Int.eq_ofNat_of_zero_le h0
  rw [Int.toNat_natCast]
  go_enter Tryd.func68, Tryd.ntmps68
  go_wp2
  go_loop [5, 6] (fun v k => ∃ j : Nat, i ≤ 31 - j ∧ j ≤ 31 ∧ k = .int .i64 ((31 - j : Nat) : Int) ∧ v = .int .i64 ((a / 2 ^ j : Nat) : Int)) (fun _ k => (intOf k).toNat - i)
  case atStart => exact ⟨0, by omega, by omega, rfl, by simp⟩
  case round =>
    obtain ⟨j, hj, hj2, rfl, rfl⟩ := hrel
    have hlt : a / 2 ^ j < 4294967296 := Nat.lt_of_le_of_lt (Nat.div_le_self _ _) ha
    have HS := Lib.hid (show a / 2 ^ (j + 1) = a / 2 ^ j / 2 by rw [Nat.pow_succ, Nat.div_div_eq_div_mul])
    by_cases hg : i < 31 - j
    · obtain ⟨q, hq⟩ : ∃ q, q = a / 2 ^ j := ⟨_, rfl⟩
      rw [← hq] at hlt HS ⊢
      clear hq
      obtain ⟨r, hr⟩ : ∃ r : Nat, 31 - j = r + 1 := ⟨31 - j - 1, by omega⟩
      have HR := Lib.hid hr
      have hr31 : r ≤ 31 := by omega
      rw [hr] at hg ⊢
      clear hr hj
      go_wp2
      exact ⟨⟨j + 1, by have := HR.out; omega, by have := HR.out; omega, by rw [show 31 - (j + 1) = r by have := HR.out; omega]; try go_num, by rw [HS.out]; try go_num⟩, by simp [intOf]; try omega⟩
    · obtain rfl : j = 31 - i := by omega
      generalize hq : a / 2 ^ (31 - i) = q at *
      have HQ := Lib.hid hq
      clear hq
      go_wp2
      go_ret
      rw [show bitF a i = q % 2 by unfold bitF; rw [HQ.out]]
      exact ⟨by go_num, rfl⟩

theorem right_plain (a n : Nat) (hn : n ≤ 32) (ha : a < 4294967296) : (∀ i, n ≤ i → i < 32 → a / 2 ^ (31 - i) % 2 = 0) ↔ a % 2 ^ (32 - n) = 0 := by
  constructor
  · intro h
    have key : ∀ j, j ≤ 32 - n → a % 2 ^ j = 0 := by
      intro j
      induction j with
      | zero => intro _; simp [Nat.mod_one]
      | succ j ih =>
        intro hj
        have h1 := ih (by omega)
        have h2 := h (31 - j) (by omega) (by omega)
        rw [show 31 - (31 - j) = j by omega] at h2
        rw [Nat.pow_succ, Nat.mod_mul, h1, h2]; simp
    exact key _ (Nat.le_refl _)
  · intro h i h1 h2
    obtain ⟨q, hq⟩ := Nat.dvd_of_mod_eq_zero h
    have : 2 ^ (32 - n) = 2 ^ (31 - i) * 2 * 2 ^ (i - n) := by
      rw [← Nat.pow_succ, ← Nat.pow_add]
      congr 1
      omega
    rw [hq, this, Nat.mul_assoc, Nat.mul_assoc, Nat.mul_div_cancel_left _ (Nat.two_pow_pos _)]
    omega

set_option maxHeartbeats 1000000 in
theorem refRight_any (a : Nat) (n : Int) (w : World) (ha : a < 4294967296) :
    Calls Tryd.prog 44 #[.agg #[.int .u32 a, .int .i64 n]] w fun e w' => e = .returned (.bool (okP (a, n))) ∧ Below w.heap.size w w' := by
  by_cases h0 : n < 0
  · have hk : okP (a, n) = false := decide_eq_false (fun h => by simp at h; omega)
    rw [hk]
    go_enter Tryd.func44, Tryd.ntmps44
    go_wp2
    go_ret
    exact ⟨rfl, balloc (Below.refl _ _) _⟩
  by_cases h1 : 32 < n
  · have hk : okP (a, n) = false := decide_eq_false (fun h => by simp at h; omega)
    rw [hk]
    go_enter Tryd.func44, Tryd.ntmps44
    go_wp2
    go_ret
    exact ⟨rfl, balloc (Below.refl _ _) _⟩
  obtain ⟨n, rfl⟩ := Int.eq_ofNat_of_zero_le (show 0 ≤ n by omega)
  have hP := right_plain a n (by omega) ha
  have hK : okP (a, (n : Int)) = decide (a % 2 ^ (32 - n) = 0) := by
    simp only [okP, Int.toNat_natCast]
    rw [decide_eq_decide]
    constructor
    · exact fun h => h.2.2
    · exact fun h => ⟨by omega, by omega, h⟩
  have HT := Lib.hid (show (∀ i, n ≤ i → i < 32 → a / 2 ^ (31 - i) % 2 = 0) → okP (a, (n : Int)) = true from fun h => by rw [hK]; exact decide_eq_true (hP.1 h))
  have HN := Lib.hid (show (∀ j, n ≤ j → j < 32 → ¬ a / 2 ^ (31 - j) % 2 = 0 → okP (a, (n : Int)) = false) from fun j h1 h2 h3 => by rw [hK]; exact decide_eq_false (fun h => h3 (hP.2 h j h1 h2)))
  clear hP hK
  go_enter Tryd.func44, Tryd.ntmps44
  go_wp2
  go_loop [3] (fun k => ∃ j : Nat, n ≤ j ∧ j ≤ 32 ∧ k = .int .i64 j ∧ ∀ i, n ≤ i → i < j → a / 2 ^ (31 - i) % 2 = 0) (fun k => 32 - (intOf k).toNat)
  case atStart => exact ⟨n, by omega, by omega, rfl, fun i h1 h2 => by omega⟩
  case round =>
    obtain ⟨j, hj, hj2, rfl, hall⟩ := hrel
    have HA := Lib.hid hall
    clear hall
    by_cases hlt : j < 32
    · have hb := bit_any a j (w.alloc (.cells #[.int .u32 a, .int .i64 n] 28)) ha (by omega) (by omega)
      rw [Int.toNat_natCast] at hb
      unfold bitF at hb
      by_cases hz : a / 2 ^ (31 - j) % 2 = 0
      · have HZ : Hid (a / 2 ^ (31 - j) % 2 = 0) := Lib.hid hz
        rw [hz] at hb
        have HB := Lib.hid hb
        clear hz hb
        go_wp2_with (go_at_call 68; refine HB.out.mono ?_; rintro e w' ⟨rfl, rfl⟩)
        exact ⟨⟨j + 1, by omega, by omega, by go_num, fun i h1 h2 => by
          rcases Nat.lt_or_ge i j with h | h
          · exact HA.out i h1 h
          · obtain rfl : i = j := by omega
            exact HZ.out⟩, by simp [intOf]; omega⟩
      · have HZ : Hid (¬ a / 2 ^ (31 - j) % 2 = 0) := Lib.hid hz
        have hd : (((a / 2 ^ (31 - j) % 2 : Nat) : Int) != 0) = true := by rw [bne_iff_ne]; exact fun h => hz (Int.natCast_eq_zero.1 h)
        have HB := Lib.hid hb
        clear hz hb
        generalize hq : a / 2 ^ (31 - j) % 2 = z at *
        have HQ := Lib.hid hq
        clear hq
        go_wp2_with (go_at_call 68; refine HB.out.mono ?_; rintro e w' ⟨rfl, rfl⟩)
        go_ret
        refine ⟨?_, balloc (Below.refl _ _) _⟩
        rw [HN.out j hj hlt (by rw [HQ.out]; exact HZ.out)]; rfl
    · obtain rfl : j = 32 := by omega
      go_wp2
      go_ret
      refine ⟨?_, balloc (Below.refl _ _) _⟩
      rw [HT.out (fun i h1 h2 => HA.out i h1 h2)]; rfl

/-- the reference's mask, round by round -/
def maskTo (k i : Nat) : Nat := if i ≤ k then 2 ^ i - 1 else (2 ^ k - 1) * 2 ^ (i - k)
theorem maskTo_succ (k i : Nat) (hk : k ≤ 32) (hi : i < 32) : maskTo k (i + 1) = 2 * maskTo k i + (if i < k then 1 else 0) := by
  unfold maskTo
  by_cases h : i < k
  · rw [if_pos (by omega), if_pos (by omega), if_pos h, Nat.pow_succ]
    have : 0 < 2 ^ i := Nat.two_pow_pos _
    omega
  · rw [if_neg (by omega), if_neg h]
    by_cases h2 : i = k
    · subst h2
      rw [if_pos (Nat.le_refl _), show i + 1 - i = 1 by omega]; omega
    · rw [if_neg (by omega), show i + 1 - k = (i - k) + 1 by omega, Nat.pow_succ]
      rw [← Nat.mul_assoc]; omega
theorem maskTo_32 (k : Nat) (hk : k ≤ 32) : maskTo k 32 = maskF k := by
  have : ∀ k : Fin 33, maskTo k.val 32 = maskF k.val := by decide +kernel
  exact this ⟨k, by omega⟩
theorem maskTo_lt : ∀ (k : Fin 33) (i : Fin 33), maskTo k.val i.val < 2 ^ i.val := by decide +kernel

set_option maxHeartbeats 400000 in
theorem refMask_any (k : Int) (w : World) (h0 : 0 ≤ k) (hk : k ≤ 32) :
    Calls Tryd.prog 46 #[.int .i64 k] w fun e w' => e = .returned (.int .u32 (maskF k.toNat)) ∧ w = w' := by
  obtain ⟨k, rfl⟩ := Int.eq_ofNat_of_zero_le h0
  rw [Int.toNat_natCast]
  go_enter Tryd.func46, Tryd.ntmps46
  go_wp2
  go_loop [3, 4] (fun v i => ∃ j : Nat, j ≤ 32 ∧ i = .int .i64 j ∧ v = .int .u32 (maskTo k j)) (fun _ i => 32 - (intOf i).toNat)
  case atStart => exact ⟨0, by omega, rfl, by simp [maskTo]⟩
  case round =>
    obtain ⟨j, hj, rfl, rfl⟩ := hrel
    by_cases hlt : j < 32
    · have hm := maskTo_lt ⟨k, by omega⟩ ⟨j, by omega⟩
      have hp : 2 ^ j ≤ 2147483648 := by
        have : 2 ^ j ≤ 2 ^ 31 := Nat.pow_le_pow_right (by omega) (by omega)
        simpa using this
      simp only at hm
      have hm2 : maskTo k j < 2147483648 := by omega
      have HS := Lib.hid (maskTo_succ k j (by omega) hlt)
      generalize maskTo k j = q at *
      clear hm hp
      by_cases hjk : j < k
      · go_wp2
        exact ⟨⟨j + 1, by omega, by go_num, by rw [HS.out, if_pos hjk]; go_num⟩, by simp [intOf]; omega⟩
      · go_wp2
        exact ⟨⟨j + 1, by omega, by go_num, by rw [HS.out, if_neg (by omega)]; go_num⟩, by simp [intOf]; omega⟩
    · obtain rfl : j = 32 := by omega
      rw [maskTo_32 k (by omega)]
      go_wp2
      go_ret
      exact ⟨rfl, rfl⟩

end Go.Proofs.YtgjeejdebneoaaaDoor
