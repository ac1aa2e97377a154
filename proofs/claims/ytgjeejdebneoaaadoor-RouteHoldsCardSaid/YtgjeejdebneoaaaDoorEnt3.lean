/- entry: Of, All, Name, and the references. -/
import Derived.Test.YtgjeejdebneoaaaDoorEnt2
namespace Go.Proofs.YtgjeejdebneoaaaDoor
set_option linter.unusedVariables false
set_option linter.unusedSimpArgs false
open Go.RowKit
set_option maxRecDepth 100000

theorem whyF_eq (f : Int) (a m x k : Nat) : whyF f a m x k = if f ≠ 2 then 1 else if (lenF m).2 ≠ 0 then 2 else if bits .andNot .u32 (a : Int) (m : Int) ≠ 0 then 3 else if kindBad a m = true then 4 else if x ≠ 0 then 5 else if k < 1 ∨ 16 < k then 6 else 0 := by
  simp only [whyF, fromE, ruleE, decide_eq_true_eq]
theorem lenF_ok (m : Nat) (h : (lenF m).2 = 0) : m = maskF (lenF m).1 ∧ (lenF m).1 ≤ 32 := by
  unfold lenF at h ⊢
  by_cases h1 : maskF (lenL m) = m
  · rw [if_pos h1]; exact ⟨h1.symm, lenL_le m⟩
  · rw [if_neg h1] at h; simp at h
theorem okP_bits (a m : Nat) (ha : a < 4294967296) (h : (lenF m).2 = 0) : okP (a, ((lenF m).1 : Int)) = decide (bits .andNot .u32 (a : Int) (m : Int) = 0) := by
  obtain ⟨h1, h2⟩ := lenF_ok m h
  generalize (lenF m).1 = n at *
  subst h1
  rw [andNot_mask a n ha h2]
  simp only [okP, Int.toNat_natCast]
  rw [decide_eq_decide]
  constructor
  · rintro ⟨_, _, h⟩; rw [h]; rfl
  · intro h; exact ⟨by omega, by omega, Int.natCast_eq_zero.1 h⟩

/-- may the entry of a prefix be told? -/
def okOf (a : Nat) (n me : Int) : Bool := okP (a, n) && decide (1 ≤ me ∧ me ≤ 16) && !kindBad a (maskF n.toNat)
/-- the entry of a prefix, as a value, and the error -/
def ofV (a : Nat) (n me : Int) : Value := if okOf a n me then .tuple #[.agg #[.int .i64 2, .int .i64 0, .int .u32 a, .int .u32 (maskF n.toNat), .int .u32 0, .int .u32 me], .int .i64 0] else .tuple #[.agg #[.int .i64 0, .int .i64 0, .int .u32 0, .int .u32 0, .int .u32 0, .int .u32 0], .int .i64 2]
theorem lenF_mask (n : Nat) (hn : n ≤ 32) : lenF (maskF n) = (n, 0) := by
  have := lenL_mask ⟨n, by omega⟩
  simp only at this
  unfold lenF
  rw [this, if_pos rfl]
theorem whyF_of (a n me : Nat) (ha : a < 4294967296) (hn : n ≤ 32) (hz : a % 2 ^ (32 - n) = 0) (h1 : 1 ≤ me) (h2 : me ≤ 16) : whyF 2 a (maskF n) 0 me = if kindBad a (maskF n) then 4 else 0 := by
  rw [whyF_eq, if_neg (by simp), lenF_mask n hn, if_neg (by simp), andNot_mask a n ha hn, hz, if_neg (by simp)]
  cases kindBad a (maskF n) <;> simp
  omega

set_option maxHeartbeats 2000000 in
theorem of_any (a : Nat) (n me : Int) (w : World) (ha : a < 4294967296) (hme : me ≤ 9223372036854775807) :
    Calls Tryd.prog 66 #[.agg #[.int .u32 a, .int .i64 n], .int .i64 me] w fun e w' => e = .returned (ofV a n me) ∧ Below w.heap.size w w' := by
  have hC := fun W => check_any a n W ha
  have hEb := fun (W : World) => Blk.new (W.alloc (.cells #[.int .u32 a, .int .i64 n] 28)) 98 #[.int .i64 0, .int .i64 0, .int .u32 0, .int .u32 0, .int .u32 0, .int .u32 0]
  have hV : ofV a n me = if okOf a n me then .tuple #[.agg #[.int .i64 2, .int .i64 0, .int .u32 a, .int .u32 (maskF n.toNat), .int .u32 0, .int .u32 me], .int .i64 0] else .tuple #[.agg #[.int .i64 0, .int .i64 0, .int .u32 0, .int .u32 0, .int .u32 0, .int .u32 0], .int .i64 2] := rfl
  by_cases hbad : okP (a, n) = false ∨ me < 1 ∨ 16 < me
  · have hno : okOf a n me = false := by
      unfold okOf
      rcases hbad with h | h | h
      · simp [h]
      · have : decide (1 ≤ me ∧ me ≤ 16) = false := decide_eq_false (by omega)
        simp [this]
      · have : decide (1 ≤ me ∧ me ≤ 16) = false := decide_eq_false (by omega)
        simp [this]
    rw [hno] at hV
    simp only [Bool.false_eq_true, if_false] at hV
    have HV := Lib.hid hV
    generalize okP (a, n) = ok at *
    have HC := Lib.hid hC
    have HB := Lib.hid hEb
    clear hC hV hno hEb
    cases ok
    case' false => have hx : True := trivial
    case' true => rcases (by simpa using hbad : me < 1 ∨ 16 < me) with hx | hx
    all_goals
      clear hbad
      go_enter Tryd.func66, Tryd.ntmps66
      go_wp2_with fail
      refine (HC.out _).mono ?_
      rintro e w1 ⟨rfl, hb⟩
      have hB1 := (HB.out w).below hb (by simp)
      simp only [World.size_alloc] at hB1
      have d0 := hB1.cell 0
      have d1 := hB1.cell 1
      have d2 := hB1.cell 2
      have d3 := hB1.cell 3
      have d4 := hB1.cell 4
      have d5 := hB1.cell 5
      have f0 := hB1.frozen 0
      have f1 := hB1.frozen 1
      have f2 := hB1.frozen 2
      have f3 := hB1.frozen 3
      have f4 := hB1.frozen 4
      have f5 := hB1.frozen 5
      simp at d0 d1 d2 d3 d4 d5
      have hb2 := bnext (balloc (balloc (Below.refl _ w) (.cells #[.int .u32 a, .int .i64 n] 28)) (.cells #[.int .i64 0, .int .i64 0, .int .u32 0, .int .u32 0, .int .u32 0, .int .u32 0] 98)) hb
      clear hb hB1
      go_wp2_with fail
      refine bodyPost_ret (v := .tuple #[.agg #[.int .i64 0, .int .i64 0, .int .u32 0, .int .u32 0, .int .u32 0, .int .u32 0], .int .i64 2]) (by simp [results, Tryd.results66, go_sem, d0, d1, d2, d3, d4, d5]) rfl ?_
      rw [HV.out]
      exact ⟨rfl, by go_grown⟩
  · have hok : okP (a, n) = true := by cases h : okP (a, n) <;> simp_all
    have hm1 : 1 ≤ me := by omega
    have hm2 : me ≤ 16 := by omega
    clear hbad
    have hp : 0 ≤ n ∧ n ≤ 32 ∧ a % 2 ^ (32 - n.toNat) = 0 := by simpa [okP] using hok
    obtain ⟨hn0, hn1, hz⟩ := hp
    obtain ⟨n, rfl⟩ := Int.eq_ofNat_of_zero_le hn0
    obtain ⟨me, rfl⟩ := Int.eq_ofNat_of_zero_le (show 0 ≤ me by omega)
    rw [Int.toNat_natCast] at hz
    have hwy := whyF_of a n me ha (by omega) hz (by omega) (by omega)
    have hW := fun W => why_any 2 0 a (maskF n) 0 me W ha (maskF_lt n) (by omega) (by omega)
    have hoo : okOf a (n : Int) (me : Int) = !kindBad a (maskF n) := by
      unfold okOf
      have : decide (1 ≤ (me : Int) ∧ (me : Int) ≤ 16) = true := decide_eq_true ⟨hm1, hm2⟩
      rw [hok, this, Int.toNat_natCast]; simp
    have hM := fun W => Mask_any n W (by omega) hn1
    rw [Int.toNat_natCast] at hM hV
    rw [hoo] at hV
    rw [hwy] at hW
    rw [hok] at hC
    simp only [if_true] at hC
    generalize kindBad a (maskF n) = kb at *
    generalize maskF n = mk at *
    have HC := Lib.hid hC
    have HB := Lib.hid hEb
    have HV := Lib.hid hV
    have HW := Lib.hid hW
    have HM := Lib.hid hM
    clear hC hEb hV hW hM hoo hwy hok hz
    cases kb
    all_goals
      go_enter Tryd.func66, Tryd.ntmps66
      go_wp2_with fail
      refine (HC.out _).mono ?_
      rintro e w1 ⟨rfl, hb⟩
      have hB1 := (HB.out w).below hb (by simp)
      simp only [World.size_alloc] at hB1
      have p0 := keepc (W := (w.alloc (.cells #[.int .u32 a, .int .i64 n] 28)).alloc (.cells #[.int .i64 0, .int .i64 0, .int .u32 0, .int .u32 0, .int .u32 0, .int .u32 0] 98)) (p := ⟨w.heap.size, 0, none⟩) (v := .int .u32 a) (by simp) hb
      have p1 := keepc (W := (w.alloc (.cells #[.int .u32 a, .int .i64 n] 28)).alloc (.cells #[.int .i64 0, .int .i64 0, .int .u32 0, .int .u32 0, .int .u32 0, .int .u32 0] 98)) (p := ⟨w.heap.size, 1, none⟩) (v := .int .i64 n) (by simp) hb
      have hb2 := bnext (balloc (balloc (Below.refl _ w) (.cells #[.int .u32 a, .int .i64 n] 28)) (.cells #[.int .i64 0, .int .i64 0, .int .u32 0, .int .u32 0, .int .u32 0, .int .u32 0] 98)) hb
      clear hb
      go_wp2_with (go_at_call 75; refine (HM.out _).mono ?_; rintro e w' ⟨rfl, rfl⟩)
      refine (HW.out _).mono ?_
      rintro e w2 ⟨rfl, hb3⟩
      have hE := Blk.new w1 98 #[.int .i64 2, .int .i64 0, .int .u32 a, .int .u32 mk, .int .u32 0, .int .u32 me]
      have hE2 := hE.below hb3 (by simp)
      have hD2 := (hB1.alloc (.cells #[.int .i64 2, .int .i64 0, .int .u32 a, .int .u32 mk, .int .u32 0, .int .u32 me] 98)).below hb3 (by have := hB1.lt; simp; omega)
      have hne : w1.heap.size ≠ w.heap.size + 1 := by have := hB1.lt; omega
      have d0 := hD2.cell 0
      have d1 := hD2.cell 1
      have d2 := hD2.cell 2
      have d3 := hD2.cell 3
      have d4 := hD2.cell 4
      have d5 := hD2.cell 5
      have f0 := hD2.frozen 0
      have f1 := hD2.frozen 1
      have f2 := hD2.frozen 2
      have f3 := hD2.frozen 3
      have f4 := hD2.frozen 4
      have f5 := hD2.frozen 5
      have e0 := hE2.cell 0
      have e1 := hE2.cell 1
      have e2 := hE2.cell 2
      have e3 := hE2.cell 3
      have e4 := hE2.cell 4
      have e5 := hE2.cell 5
      simp at d0 d1 d2 d3 d4 d5 e0 e1 e2 e3 e4 e5
      have hb4 := bnext (balloc hb2 (.cells #[.int .i64 2, .int .i64 0, .int .u32 a, .int .u32 mk, .int .u32 0, .int .u32 me] 98)) hb3
      clear hb3 hb2 hE hE2 hD2 hB1
      go_wp2_with fail
    · refine bodyPost_ret (v := .tuple #[.agg #[.int .i64 2, .int .i64 0, .int .u32 a, .int .u32 mk, .int .u32 0, .int .u32 me], .int .i64 0]) (by simp [results, Tryd.results66, go_sem, d0, d1, d2, d3, d4, d5]) rfl ?_
      rw [HV.out]
      exact ⟨rfl, by go_grown⟩
    · refine bodyPost_ret (v := .tuple #[.agg #[.int .i64 0, .int .i64 0, .int .u32 0, .int .u32 0, .int .u32 0, .int .u32 0], .int .i64 2]) (by simp [results, Tryd.results66, go_sem, d0, d1, d2, d3, d4, d5]) rfl ?_
      rw [HV.out]
      exact ⟨rfl, by go_grown⟩
end Go.Proofs.YtgjeejdebneoaaaDoor
