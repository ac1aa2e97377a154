/- the document's Has. -/
import Derived.Test.YtfgbliglgdkgpaaDoorPfxH
namespace Go.Proofs.YtfgbliglgdkgpaaDoor
set_option linter.unusedVariables false
set_option linter.unusedSimpArgs false
open Go.RowKit
set_option maxRecDepth 100000
theorem bit_step (a i : Nat) (hi : i < 32) : a / 2 ^ (31 - i) = 2 * (a / 2 ^ (32 - i)) + bitF a i := by
  unfold bitF
  have e : 2 ^ (32 - i) = 2 ^ (31 - i) * 2 := by rw [← Nat.pow_succ]; congr 1; omega
  rw [e, ← Nat.div_div_eq_div_mul]
  omega
theorem high_up {a b i n : Nat} (hi : i < n) (hn : n ≤ 32) (h : a / 2 ^ (32 - n) = b / 2 ^ (32 - n)) : a / 2 ^ (31 - i) = b / 2 ^ (31 - i) := by
  have e : 2 ^ (31 - i) = 2 ^ (32 - n) * 2 ^ (n - 1 - i) := by rw [← Nat.pow_add]; congr 1; omega
  rw [e, ← Nat.div_div_eq_div_mul, ← Nat.div_div_eq_div_mul, h]
theorem bit_same {a b i : Nat} (hi : i < 32) (h : a / 2 ^ (32 - i) = b / 2 ^ (32 - i)) : bitF a i = bitF b i ↔ a / 2 ^ (32 - (i + 1)) = b / 2 ^ (32 - (i + 1)) := by
  have e : 32 - (i + 1) = 31 - i := by omega
  rw [e, bit_step a i hi, bit_step b i hi, h]
  omega
set_option maxHeartbeats 1000000 in
theorem refHas_any (a : Nat) (n : Int) (x : Nat) (w : World) (ha : a < 4294967296) (hx : x < 4294967296) :
    Calls Tryd.prog 11 #[.agg #[.int .u32 a, .int .i64 n], .int .u32 x] w fun e w' => e = .returned (.bool (hasF (a, n) x)) ∧ Below w.heap.size w w' := by
  have HR := Lib.hid (fun W => refRight_any a n W ha)
  cases hk : okP (a, n)
  · have hf : hasF (a, n) x = false := by unfold hasF; rw [hk]; rfl
    rw [hf]
    rw [hk] at HR
    clear hk hf
    go_enter Tryd.func11, Tryd.ntmps11
    go_wp2_with (go_at_call 36; refine (HR.out _).mono ?_; rintro e w1 ⟨rfl, hb⟩)
    go_ret
    exact ⟨rfl, bnext (balloc (Below.refl _ _) _) hb⟩
  · obtain ⟨k, rfl, hk2, hz⟩ := okP_bounds hk
    have hf : hasF (a, (k : Int)) x = decide (x / 2 ^ (32 - k) = a / 2 ^ (32 - k)) := by unfold hasF; rw [hk]; simp
    have HF := Lib.hid hf
    rw [hk] at HR
    clear hk hf hz
    go_enter Tryd.func11, Tryd.ntmps11
    go_wp2_with fail
    refine (HR.out _).mono ?_
    rintro e w1 ⟨rfl, b1⟩
    have K1 := (Blk.new w 33 #[.int .u32 a, .int .i64 k]).below b1 (by simp)
    have c1 := bnext (balloc (Below.refl _ w) _) b1
    have d0 := (K1).cell 0
    have d1 := (K1).cell 1
    simp only [List.getElem?_toArray, List.getElem?_cons_zero, List.getElem?_cons_succ] at d0 d1
    clear b1
    go_wp2_with fail
    go_loop [5] (fun i => ∃ j : Nat, j ≤ k ∧ i = .int .i64 j ∧ x / 2 ^ (32 - j) = a / 2 ^ (32 - j)) (fun i => k - (intOf i).toNat)
    case atStart => exact ⟨0, Nat.zero_le _, rfl, by rw [Nat.div_eq_of_lt (by simpa using hx), Nat.div_eq_of_lt (by simpa using ha)]⟩
    case round =>
      obtain ⟨j, hj, rfl, hsame⟩ := hrel
      by_cases hlt : j < k
      · have B1 := Lib.hid (fun W => bit_any a j W ha (by omega) (by omega))
        have B2 := Lib.hid (fun W => bit_any x j W hx (by omega) (by omega))
        have HS := Lib.hid (bit_same (a := x) (b := a) (i := j) (by omega) hsame)
        rw [Int.toNat_natCast] at B1 B2
        clear hsame
        by_cases hq : bitF x j = bitF a j
        · have HQ := Lib.hid hq
          rw [hq] at B2
          have hne : (((bitF a j : Nat) : Int) != ((bitF a j : Nat) : Int)) = false := by simp
          clear hq
          generalize hbj : bitF a j = bj at *
          have HBJ := Lib.hid hbj
          clear hbj
          go_wp2_with fail
          refine (B1.out _).mono ?_
          rintro e w' ⟨rfl, rfl⟩
          go_wp2_with fail
          refine (B2.out _).mono ?_
          rintro e w' ⟨rfl, rfl⟩
          go_wp2_with fail
          go_round
          case rel => exact ⟨j + 1, by omega, by go_num, HS.out.1 (by rw [HQ.out]; first | done | exact HBJ.out.symm | rfl)⟩
          case measure => simp [intOf]; omega
        · have HN := Lib.hid (show hasF (a, (k : Int)) x = false from by
            rw [HF.out]
            refine decide_eq_false (fun h => hq (HS.out.2 ?_))
            have e : 32 - (j + 1) = 31 - j := by omega
            rw [e]
            exact high_up hlt hk2 h)
          have hne : (((bitF a j : Nat) : Int) != ((bitF x j : Nat) : Int)) = true := by rw [bne_iff_ne]; intro h; exact hq (by omega)
          clear hq
          generalize bitF a j = bj at *
          generalize bitF x j = bx at *
          go_wp2_with fail
          refine (B1.out _).mono ?_
          rintro e w' ⟨rfl, rfl⟩
          go_wp2_with fail
          refine (B2.out _).mono ?_
          rintro e w' ⟨rfl, rfl⟩
          go_wp2_with fail
          go_ret
          rw [HN.out]
          exact ⟨rfl, c1⟩
      · obtain rfl : j = k := by omega
        have HN := Lib.hid (show hasF (a, (j : Int)) x = true from by rw [HF.out]; exact decide_eq_true hsame)
        clear hsame
        go_wp2
        go_ret
        rw [HN.out]
        exact ⟨rfl, c1⟩
end Go.Proofs.YtfgbliglgdkgpaaDoor
