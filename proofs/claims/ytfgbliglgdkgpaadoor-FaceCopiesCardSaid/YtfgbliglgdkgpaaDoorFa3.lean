/- The document's Inside and Right. -/
import Derived.Test.YtfgbliglgdkgpaaDoorFa2
import Derived.Test.YtfgbliglgdkgpaaDoorPfxG
namespace Go.Proofs.YtfgbliglgdkgpaaDoor
set_option linter.unusedVariables false
set_option linter.unusedSimpArgs false
open Go.RowKit
set_option maxRecDepth 100000
/-- are the bits behind the prefix, as far as looked at, all 0, all 1? -/
def zF (x k j : Nat) : Bool := decide (x / 2 ^ (32 - j) % 2 ^ (j - k) = 0)
def oF (x k j : Nat) : Bool := decide (x / 2 ^ (32 - j) % 2 ^ (j - k) = 2 ^ (j - k) - 1)
theorem low_step {x k j : Nat} (hk : k ≤ j) (hj : j < 32) : x / 2 ^ (32 - (j + 1)) % 2 ^ (j + 1 - k) = bitF x j + 2 * (x / 2 ^ (32 - j) % 2 ^ (j - k)) ∧ 2 ^ (j + 1 - k) = 2 * 2 ^ (j - k) ∧ bitF x j < 2 ∧ x / 2 ^ (32 - j) % 2 ^ (j - k) < 2 ^ (j - k) ∧ 0 < 2 ^ (j - k) := by
  have h1 : 2 ^ (j + 1 - k) = 2 * 2 ^ (j - k) := by rw [show j + 1 - k = (j - k) + 1 by omega, Nat.pow_succ, Nat.mul_comm]
  have h2 : 0 < 2 ^ (j - k) := Nat.two_pow_pos _
  refine ⟨?_, h1, ?_, Nat.mod_lt _ h2, h2⟩
  · rw [h1, show 32 - (j + 1) = 31 - j by omega, Nat.mod_mul]
    have e : x / 2 ^ (31 - j) / 2 = x / 2 ^ (32 - j) := by
      rw [Nat.div_div_eq_div_mul, ← Nat.pow_succ]
      congr 2
      omega
    rw [e]
    rfl
  · unfold bitF; omega
theorem zF_step {x k j : Nat} (hk : k ≤ j) (hj : j < 32) : zF x k (j + 1) = (zF x k j && decide (bitF x j = 0)) := by
  obtain ⟨h1, h2, h3, h4, h5⟩ := low_step (x := x) hk hj
  unfold zF
  rw [h1, ← Bool.decide_and]
  refine decide_eq_decide.2 ⟨fun h => ⟨by omega, by omega⟩, fun h => by omega⟩
theorem oF_step {x k j : Nat} (hk : k ≤ j) (hj : j < 32) : oF x k (j + 1) = (oF x k j && decide (bitF x j = 1)) := by
  obtain ⟨h1, h2, h3, h4, h5⟩ := low_step (x := x) hk hj
  unfold oF
  rw [h1, h2, ← Bool.decide_and]
  refine decide_eq_decide.2 ⟨fun h => ⟨by omega, by omega⟩, fun h => by omega⟩
theorem zF_start (x k : Nat) : zF x k k = true := by simp [zF, Nat.mod_one]
theorem oF_start (x k : Nat) : oF x k k = true := by simp [oF, Nat.mod_one]
theorem end_low {a k x : Nat} (hz : a % 2 ^ (32 - k) = 0) (hs : x / 2 ^ (32 - k) = a / 2 ^ (32 - k)) : endF (a, (k : Int)) x = (zF x k 32 || oF x k 32) := by
  have hp : 0 < 2 ^ (32 - k) := Nat.two_pow_pos _
  have h1 := Nat.div_add_mod x (2 ^ (32 - k))
  have h2 := Nat.div_add_mod a (2 ^ (32 - k))
  rw [hs] at h1
  unfold endF zF oF
  simp only [Nat.sub_self, Nat.pow_zero, Nat.div_one, Int.toNat_natCast]
  have e1 : (x = a) ↔ (x % 2 ^ (32 - k) = 0) := by omega
  have e2 : (x = a + (2 ^ (32 - k) - 1)) ↔ (x % 2 ^ (32 - k) = 2 ^ (32 - k) - 1) := by omega
  rw [decide_eq_decide.2 e1, decide_eq_decide.2 e2]

set_option maxHeartbeats 4000000 in
theorem inside_any (a : Nat) (n : Int) (x : Nat) (w : World) (ha : a < 4294967296) (hx : x < 4294967296) :
    Calls Tryd.prog 47 #[.agg #[.int .u32 a, .int .i64 n], .int .u32 x] w fun e w' => e = .returned (.bool (hasF (a, n) x && !endF (a, n) x)) ∧ Below w.heap.size w w' := by
  have HH := Lib.hid (fun W => refHas_any a n x W ha hx)
  cases hh : hasF (a, n) x
  · rw [hh] at HH
    clear hh
    simp only [Bool.false_and]
    go_enter Tryd.func47, Tryd.ntmps47
    go_wp2_with (go_at_call 11; refine (HH.out _).mono ?_; rintro e w1 ⟨rfl, hb⟩)
    go_ret
    exact ⟨rfl, bnext (balloc (Below.refl _ _) _) hb⟩
  · rw [hh] at HH
    have hp : okP (a, n) = true := by unfold hasF at hh; simp at hh; exact hh.1
    obtain ⟨k, rfl, hk2, hz⟩ := okP_bounds hp
    have hs : x / 2 ^ (32 - k) = a / 2 ^ (32 - k) := by unfold hasF at hh; simp at hh; exact hh.2
    have HE := Lib.hid (end_low hz hs)
    clear hh hp hz hs
    simp only [Bool.true_and]
    go_enter Tryd.func47, Tryd.ntmps47
    go_wp2_with fail
    refine (HH.out _).mono ?_
    rintro e w1 ⟨rfl, b1⟩
    have K1 := (Blk.new w 33 #[.int .u32 a, .int .i64 k]).below b1 (by simp)
    have c1 := bnext (balloc (Below.refl _ w) _) b1
    have d0 := (K1).cell 0
    have d1 := (K1).cell 1
    simp only [List.getElem?_toArray, List.getElem?_cons_zero, List.getElem?_cons_succ] at d0 d1
    clear b1
    go_wp2_with fail
    go_loop [5, 6, 7] (fun z o i => ∃ j : Nat, k ≤ j ∧ j ≤ 32 ∧ i = .int .i64 j ∧ z = .bool (zF x k j) ∧ o = .bool (oF x k j)) (fun _ _ i => 32 - (intOf i).toNat)
    case atStart => exact ⟨k, Nat.le_refl _, hk2, rfl, by rw [zF_start], by rw [oF_start]⟩
    case round =>
      obtain ⟨j, hkj, hj, rfl, rfl, rfl⟩ := hrel
      by_cases hlt : j < 32
      · have B1 := Lib.hid (fun W => bit_any x j W hx (by omega) (by omega))
        rw [Int.toNat_natCast] at B1
        have ZS := Lib.hid (zF_step (x := x) hkj hlt)
        have OS := Lib.hid (oF_step (x := x) hkj hlt)
        have hb01 : bitF x j = 0 ∨ bitF x j = 1 := by unfold bitF; omega
        generalize zF x k j = z at *
        generalize oF x k j = o at *
        generalize bitF x j = b at *
        rcases hb01 with rfl | rfl <;> cases z <;> cases o
        all_goals
          go_wp2_with (go_at_call 37; refine (B1.out _).mono ?_; rintro e w' ⟨rfl, rfl⟩)
          go_round
          case rel => exact ⟨j + 1, by omega, by omega, by go_num, by rw [ZS.out]; rfl, by rw [OS.out]; rfl⟩
          case measure => simp [intOf]; omega
      · obtain rfl : j = 32 := by omega
        have HE' := HE.out
        generalize zF x k 32 = z at *
        generalize oF x k 32 = o at *
        have HQ := Lib.hid HE'
        clear HE'
        cases z <;> cases o
        all_goals
          go_wp2
          go_ret
          rw [HQ.out]
          exact ⟨rfl, c1⟩

set_option maxHeartbeats 4000000 in
theorem right9_any (na : Nat) (nl : Int) (ad : Nat) (up : Bool) (w : World) (ha : na < 4294967296) (hd : ad < 4294967296) :
    Calls Tryd.prog 15 #[.agg #[.int .u32 na, .int .i64 nl, .int .u32 ad, .bool up]] w fun e w' => e = .returned (.bool (okF ⟨na, nl, ad, up⟩)) ∧ Below w.heap.size w w' := by
  have HC := Lib.hid (fun W => refRight_any na nl W ha)
  have HH := Lib.hid (fun W => inside_any na nl ad W ha hd)
  have HK := Lib.hid (fun W => refKindA_any ad W hd)
  by_cases h0 : okP (na, nl) = false
  · rw [okF_not (f := ⟨na, nl, ad, up⟩) (.inl h0)]
    rw [h0] at HC
    clear h0
    go_enter Tryd.func15, Tryd.ntmps15
    go_wp2_with fail
    refine (HC.out _).mono ?_
    rintro e w1 ⟨rfl, b1⟩
    have K1 := (Blk.new w 35 #[.int .u32 na, .int .i64 nl, .int .u32 ad, .bool up]).below b1 (by simp)
    have c1 := bnext (balloc (Below.refl _ w) _) b1
    have d0 := (K1).cell 0
    have d1 := (K1).cell 1
    have d2 := (K1).cell 2
    have d3 := (K1).cell 3
    simp only [List.getElem?_toArray, List.getElem?_cons_zero, List.getElem?_cons_succ] at d0 d1 d2 d3
    have z1 := K1.lt
    clear b1
    go_wp2_with fail
    go_ret
    exact ⟨rfl, c1⟩
  by_cases h1 : nl < 1
  · rw [okF_not (f := ⟨na, nl, ad, up⟩) (.inr (.inl (by show ¬ 1 ≤ nl; omega)))]
    rw [show okP (na, nl) = true by simpa using h0] at HC
    have g1 : decide (1 ≤ nl) = false := decide_eq_false (by omega)
    clear h0 h1
    go_enter Tryd.func15, Tryd.ntmps15
    go_wp2_with fail
    refine (HC.out _).mono ?_
    rintro e w1 ⟨rfl, b1⟩
    have K1 := (Blk.new w 35 #[.int .u32 na, .int .i64 nl, .int .u32 ad, .bool up]).below b1 (by simp)
    have c1 := bnext (balloc (Below.refl _ w) _) b1
    have d0 := (K1).cell 0
    have d1 := (K1).cell 1
    have d2 := (K1).cell 2
    have d3 := (K1).cell 3
    simp only [List.getElem?_toArray, List.getElem?_cons_zero, List.getElem?_cons_succ] at d0 d1 d2 d3
    have z1 := K1.lt
    clear b1
    go_wp2_with fail
    go_ret
    exact ⟨rfl, c1⟩
  by_cases h2 : 30 < nl
  · rw [okF_not (f := ⟨na, nl, ad, up⟩) (.inr (.inr (.inl (by show ¬ nl ≤ 30; omega))))]
    rw [show okP (na, nl) = true by simpa using h0] at HC
    have g1 : decide (1 ≤ nl) = true := decide_eq_true (by omega)
    have g2 : decide (nl ≤ 30) = false := decide_eq_false (by omega)
    clear h0 h1 h2
    go_enter Tryd.func15, Tryd.ntmps15
    go_wp2_with fail
    refine (HC.out _).mono ?_
    rintro e w1 ⟨rfl, b1⟩
    have K1 := (Blk.new w 35 #[.int .u32 na, .int .i64 nl, .int .u32 ad, .bool up]).below b1 (by simp)
    have c1 := bnext (balloc (Below.refl _ w) _) b1
    have d0 := (K1).cell 0
    have d1 := (K1).cell 1
    have d2 := (K1).cell 2
    have d3 := (K1).cell 3
    simp only [List.getElem?_toArray, List.getElem?_cons_zero, List.getElem?_cons_succ] at d0 d1 d2 d3
    have z1 := K1.lt
    clear b1
    go_wp2_with fail
    go_ret
    exact ⟨rfl, c1⟩
  by_cases h3 : ¬ kindF ad = 6
  · rw [okF_not (f := ⟨na, nl, ad, up⟩) (.inr (.inr (.inr (.inr (.inr h3)))))]
    rw [show okP (na, nl) = true by simpa using h0] at HC
    have g1 : decide (1 ≤ nl) = true := decide_eq_true (by omega)
    have g2 : decide (nl ≤ 30) = true := decide_eq_true (by omega)
    have g5 : (((kindF ad : Nat) : Int) == 6) = false := by rw [beq_eq_false_iff_ne]; omega
    generalize kindF ad = kd at *
    clear h0 h1 h2 h3
    go_enter Tryd.func15, Tryd.ntmps15
    go_wp2_with fail
    refine (HC.out _).mono ?_
    rintro e w1 ⟨rfl, b1⟩
    have K1 := (Blk.new w 35 #[.int .u32 na, .int .i64 nl, .int .u32 ad, .bool up]).below b1 (by simp)
    have c1 := bnext (balloc (Below.refl _ w) _) b1
    have d0 := (K1).cell 0
    have d1 := (K1).cell 1
    have d2 := (K1).cell 2
    have d3 := (K1).cell 3
    simp only [List.getElem?_toArray, List.getElem?_cons_zero, List.getElem?_cons_succ] at d0 d1 d2 d3
    have z1 := K1.lt
    clear b1
    go_wp2_with fail
    refine (HK.out _).mono ?_
    rintro e w2 ⟨rfl, b2⟩
    have K2 := K1.below b2 K1.lt
    have c2 := bnext c1 b2
    clear K1 z1 b2 c1
    clear d0 d1 d2 d3
    have d0 := (K2).cell 0
    have d1 := (K2).cell 1
    have d2 := (K2).cell 2
    have d3 := (K2).cell 3
    simp only [List.getElem?_toArray, List.getElem?_cons_zero, List.getElem?_cons_succ] at d0 d1 d2 d3
    have z2 := K2.lt
    go_wp2_with fail
    go_ret
    exact ⟨rfl, c2⟩
  by_cases h4 : hasF (na, nl) ad = false
  · rw [okF_not (f := ⟨na, nl, ad, up⟩) (.inr (.inr (.inr (.inl h4))))]
    rw [show okP (na, nl) = true by simpa using h0] at HC
    have g1 : decide (1 ≤ nl) = true := decide_eq_true (by omega)
    have g2 : decide (nl ≤ 30) = true := decide_eq_true (by omega)
    have h3' : kindF ad = 6 := by simpa using h3
    rw [h3'] at HK
    clear h3'
    rw [show (hasF (na, nl) ad && !endF (na, nl) ad) = false by rw [h4]; rfl] at HH
    clear h0 h1 h2 h3 h4
    go_enter Tryd.func15, Tryd.ntmps15
    go_wp2_with fail
    refine (HC.out _).mono ?_
    rintro e w1 ⟨rfl, b1⟩
    have K1 := (Blk.new w 35 #[.int .u32 na, .int .i64 nl, .int .u32 ad, .bool up]).below b1 (by simp)
    have c1 := bnext (balloc (Below.refl _ w) _) b1
    have d0 := (K1).cell 0
    have d1 := (K1).cell 1
    have d2 := (K1).cell 2
    have d3 := (K1).cell 3
    simp only [List.getElem?_toArray, List.getElem?_cons_zero, List.getElem?_cons_succ] at d0 d1 d2 d3
    have z1 := K1.lt
    clear b1
    go_wp2_with fail
    refine (HK.out _).mono ?_
    rintro e w2 ⟨rfl, b2⟩
    have K2 := K1.below b2 K1.lt
    have c2 := bnext c1 b2
    clear K1 z1 b2 c1
    clear d0 d1 d2 d3
    have d0 := (K2).cell 0
    have d1 := (K2).cell 1
    have d2 := (K2).cell 2
    have d3 := (K2).cell 3
    simp only [List.getElem?_toArray, List.getElem?_cons_zero, List.getElem?_cons_succ] at d0 d1 d2 d3
    have z2 := K2.lt
    go_wp2_with fail
    refine (HH.out _).mono ?_
    rintro e w3 ⟨rfl, b3⟩
    have c3 := bnext c2 b3
    clear K2 b3 c2
    go_wp2_with fail
    go_ret
    exact ⟨rfl, c3⟩
  by_cases h5 : endF (na, nl) ad = true
  · rw [okF_not (f := ⟨na, nl, ad, up⟩) (.inr (.inr (.inr (.inr (.inl h5)))))]
    rw [show okP (na, nl) = true by simpa using h0] at HC
    have g1 : decide (1 ≤ nl) = true := decide_eq_true (by omega)
    have g2 : decide (nl ≤ 30) = true := decide_eq_true (by omega)
    have h3' : kindF ad = 6 := by simpa using h3
    rw [h3'] at HK
    clear h3'
    rw [show (hasF (na, nl) ad && !endF (na, nl) ad) = false by rw [h5]; simp] at HH
    clear h0 h1 h2 h3 h4 h5
    go_enter Tryd.func15, Tryd.ntmps15
    go_wp2_with fail
    refine (HC.out _).mono ?_
    rintro e w1 ⟨rfl, b1⟩
    have K1 := (Blk.new w 35 #[.int .u32 na, .int .i64 nl, .int .u32 ad, .bool up]).below b1 (by simp)
    have c1 := bnext (balloc (Below.refl _ w) _) b1
    have d0 := (K1).cell 0
    have d1 := (K1).cell 1
    have d2 := (K1).cell 2
    have d3 := (K1).cell 3
    simp only [List.getElem?_toArray, List.getElem?_cons_zero, List.getElem?_cons_succ] at d0 d1 d2 d3
    have z1 := K1.lt
    clear b1
    go_wp2_with fail
    refine (HK.out _).mono ?_
    rintro e w2 ⟨rfl, b2⟩
    have K2 := K1.below b2 K1.lt
    have c2 := bnext c1 b2
    clear K1 z1 b2 c1
    clear d0 d1 d2 d3
    have d0 := (K2).cell 0
    have d1 := (K2).cell 1
    have d2 := (K2).cell 2
    have d3 := (K2).cell 3
    simp only [List.getElem?_toArray, List.getElem?_cons_zero, List.getElem?_cons_succ] at d0 d1 d2 d3
    have z2 := K2.lt
    go_wp2_with fail
    refine (HH.out _).mono ?_
    rintro e w3 ⟨rfl, b3⟩
    have c3 := bnext c2 b3
    clear K2 b3 c2
    go_wp2_with fail
    go_ret
    exact ⟨rfl, c3⟩
  rw [okF_yes (f := ⟨na, nl, ad, up⟩) (show okP (na, nl) = true by simpa using h0) (by show 1 ≤ nl; omega) (by show nl ≤ 30; omega) (show hasF (na, nl) ad = true by simpa using h4) (show endF (na, nl) ad = false by simpa using h5) (by simpa using h3)]
  rw [show okP (na, nl) = true by simpa using h0] at HC
  have g1 : decide (1 ≤ nl) = true := decide_eq_true (by omega)
  have g2 : decide (nl ≤ 30) = true := decide_eq_true (by omega)
  have h3' : kindF ad = 6 := by simpa using h3
  rw [h3'] at HK
  clear h3'
  rw [show (hasF (na, nl) ad && !endF (na, nl) ad) = true by simp at h4 h5; rw [h4, h5]; rfl] at HH
  clear h0 h1 h2 h3 h4 h5
  go_enter Tryd.func15, Tryd.ntmps15
  go_wp2_with fail
  refine (HC.out _).mono ?_
  rintro e w1 ⟨rfl, b1⟩
  have K1 := (Blk.new w 35 #[.int .u32 na, .int .i64 nl, .int .u32 ad, .bool up]).below b1 (by simp)
  have c1 := bnext (balloc (Below.refl _ w) _) b1
  have d0 := (K1).cell 0
  have d1 := (K1).cell 1
  have d2 := (K1).cell 2
  have d3 := (K1).cell 3
  simp only [List.getElem?_toArray, List.getElem?_cons_zero, List.getElem?_cons_succ] at d0 d1 d2 d3
  have z1 := K1.lt
  clear b1
  go_wp2_with fail
  refine (HK.out _).mono ?_
  rintro e w2 ⟨rfl, b2⟩
  have K2 := K1.below b2 K1.lt
  have c2 := bnext c1 b2
  clear K1 z1 b2 c1
  clear d0 d1 d2 d3
  have d0 := (K2).cell 0
  have d1 := (K2).cell 1
  have d2 := (K2).cell 2
  have d3 := (K2).cell 3
  simp only [List.getElem?_toArray, List.getElem?_cons_zero, List.getElem?_cons_succ] at d0 d1 d2 d3
  have z2 := K2.lt
  go_wp2_with fail
  refine (HH.out _).mono ?_
  rintro e w3 ⟨rfl, b3⟩
  have c3 := bnext c2 b3
  clear K2 b3 c2
  go_wp2_with fail
  go_ret
  exact ⟨rfl, c3⟩
end Go.Proofs.YtfgbliglgdkgpaaDoor
