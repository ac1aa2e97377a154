/- face: where a net ends, which faces may be; the document's. -/
import Derived.Test.YtfgbliglgdkgpaaDoorPfxH
import Derived.Test.YtfgbliglgdkgpaaDoorRowX
namespace Go.Proofs.YtfgbliglgdkgpaaDoor
set_option linter.unusedVariables false
set_option linter.unusedSimpArgs false
open Go.RowKit
set_option maxRecDepth 100000

/-- a face -/
structure Fc where
  na : Nat
  nl : Int
  ad : Nat
  up : Bool
deriving DecidableEq
def Fc.net (f : Fc) : Nat × Int := (f.na, f.nl)
def fcL (f : Fc) : List Value := [.int .u32 f.na, .int .i64 f.nl, .int .u32 f.ad, .bool f.up]
def fcA (f : Fc) : Array Value := #[.int .u32 f.na, .int .i64 f.nl, .int .u32 f.ad, .bool f.up]
/-- the numbers of a face fit -/
def fitF (f : Fc) : Prop := f.na < 4294967296 ∧ f.ad < 4294967296
theorem fcL_len (f : Fc) : (fcL f).length = 4 := rfl
theorem fcL_one (f : Fc) : ∀ u ∈ fcL f, u.oneCell' = true := by
  intro u hu
  simp [fcL] at hu
  rcases hu with rfl | rfl | rfl | rfl <;> rfl
def fcC (l : List Fc) : List Value := l.flatMap fcL
theorem fcC_len (l : List Fc) : (fcC l).length = l.length * 4 := rows_len fcL_len l
theorem fcC_one (l : List Fc) : ∀ u ∈ fcC l, u.oneCell' = true := rows_one fcL_one l
theorem fc_at {w : World} {B : Nat} {A : Option Addr} {l : List Fc} (h : Rd w B A (fcC l)) {i : Nat} {x : Fc} (hi : l[i]? = some x) :
    ∃ b off, A = some ⟨b, off, none⟩ ∧ b < B ∧ w.cell? ⟨b, off + i * 4, none⟩ = some (.int .u32 x.na) ∧ w.cell? ⟨b, off + i * 4 + 1, none⟩ = some (.int .i64 x.nl) ∧ w.cell? ⟨b, off + i * 4 + 2, none⟩ = some (.int .u32 x.ad) ∧ w.cell? ⟨b, off + i * 4 + 3, none⟩ = some (.bool x.up) := by
  obtain ⟨b, off, e, hb, hc⟩ := rows_at fcL_len (by omega) h hi
  refine ⟨b, off, e, hb, ?_, ?_, ?_, ?_⟩
  · simpa [Nat.add_assoc] using hc 0 _ rfl
  · simpa [Nat.add_assoc] using hc 1 _ rfl
  · simpa [Nat.add_assoc] using hc 2 _ rfl
  · simpa [Nat.add_assoc] using hc 3 _ rfl

/-- is an address the first or the last one of a net? -/
def endF (p : Nat × Int) (a : Nat) : Bool := decide (a = p.1) || decide (a = p.1 + (2 ^ (32 - p.2.toNat) - 1))
/-- may a face be? -/
def okF (f : Fc) : Bool := okP f.net && decide (1 ≤ f.nl) && decide (f.nl ≤ 30) && hasF f.net f.ad && !endF f.net f.ad && decide (kindF f.ad = 6)

theorem or_low (a j : Nat) (ha : a < 4294967296) (hj : j ≤ 32) (hz : a % 2 ^ j = 0) : a ||| (2 ^ j - 1) = a + (2 ^ j - 1) := by
  have hb : a / 2 ^ j * 2 ^ j = a := by
    have := Nat.div_add_mod a (2 ^ j)
    rw [hz, Nat.add_zero, Nat.mul_comm] at this
    exact this
  have hp : 0 < 2 ^ j := Nat.two_pow_pos _
  have := Nat.shiftLeft_add_eq_or_of_lt (a := a / 2 ^ j) (b := 2 ^ j - 1) (i := j) (by omega)
  rw [Nat.shiftLeft_eq, hb] at this
  exact this.symm
theorem mask_not (k : Nat) (hk : k ≤ 32) : 4294967295 - maskF k = 2 ^ (32 - k) - 1 := by
  have h1 : 2 ^ (32 - k) ≤ 2 ^ 32 := Nat.pow_le_pow_right (by omega) (by omega)
  have h2 : 0 < 2 ^ (32 - k) := Nat.two_pow_pos _
  unfold maskF; omega
theorem low_lt (k : Nat) : 2 ^ (32 - k) - 1 < 4294967296 := by
  have h1 : 2 ^ (32 - k) ≤ 2 ^ 32 := Nat.pow_le_pow_right (by omega) (by omega)
  omega
theorem end_last (a k : Nat) (ha : a < 4294967296) (hk : k ≤ 32) (hz : a % 2 ^ (32 - k) = 0) : bits .or .u32 (a : Int) (bits .xor .u32 IntKind.u32.max (maskF k : Int)) = ((a + (2 ^ (32 - k) - 1) : Nat) : Int) := by
  rw [not_u32 _ (maskF_lt k)]
  have e : (4294967295 : Int) - (maskF k : Int) = ((2 ^ (32 - k) - 1 : Nat) : Int) := by
    have := mask_not k hk
    have := maskF_lt k
    omega
  rw [e, u32_or_nat a _ ha (low_lt k), or_low a (32 - k) ha (by omega) hz]

set_option maxHeartbeats 400000 in
theorem ends_any (a k : Nat) (w : World) (ha : a < 4294967296) (hk : k ≤ 32) (hz : a % 2 ^ (32 - k) = 0) :
    Calls Tryd.prog 61 #[.agg #[.int .u32 a, .int .i64 k]] w fun e w' => e = .returned (.agg #[.int .u32 a, .int .u32 ((a + (2 ^ (32 - k) - 1) : Nat) : Int)]) ∧ Below w.heap.size w w' := by
  have HL := Lib.hid (end_last a k ha hk hz)
  have hk0 : (0 : Int) ≤ (k : Int) := by omega
  have hsg : IntKind.u32.signed = false := rfl
  have hnm := not_u32 (maskF k) (maskF_lt k)
  rw [hnm] at HL
  have hbt := HL.out
  generalize a + (2 ^ (32 - k) - 1) = z at *
  clear hz HL
  go_enter Tryd.func61, Tryd.ntmps61
  go_wp2_with (go_at_call 65; refine (Mask_any _ _ hk0 (by omega)).mono ?_; rw [Int.toNat_natCast]; rintro e w' ⟨rfl, rfl⟩)
  refine bodyPost_ret (v := .agg #[.int .u32 a, .int .u32 (z : Nat)]) (by simp [results, Tryd.results61, go_sem]) rfl ⟨rfl, by go_grown⟩

set_option maxHeartbeats 400000 in
theorem isEnd_any (a k x : Nat) (w : World) (ha : a < 4294967296) (hk : k ≤ 32) (hz : a % 2 ^ (32 - k) = 0) :
    Calls Tryd.prog 44 #[.agg #[.int .u32 a, .int .i64 k], .int .u32 x] w fun e w' => e = .returned (.bool (endF (a, (k : Int)) x)) ∧ Below w.heap.size w w' := by
  have i0 : ∀ (w : World) (x0 x1 : Value), (Instr.index 100 (.agg #[x0, x1]) (.int .i64 0)).run Tryd.prog w = .ok x0 w := fun _ _ _ => by kernel_rfl
  have i1 : ∀ (w : World) (x0 x1 : Value), (Instr.index 100 (.agg #[x0, x1]) (.int .i64 1)).run Tryd.prog w = .ok x1 w := fun _ _ _ => by kernel_rfl
  have HE := Lib.hid (fun W => ends_any a k W ha hk hz)
  have he : endF (a, (k : Int)) x = (decide (x = a) || decide (x = a + (2 ^ (32 - k) - 1))) := by simp [endF]
  rw [he]
  clear he hz
  generalize a + (2 ^ (32 - k) - 1) = z at *
  by_cases h1 : x = a
  · have hc : ((a : Int) == (x : Int)) = true := by rw [beq_iff_eq]; omega
    rw [show (decide (x = a) || decide (x = z)) = true by simp [h1]]
    clear h1
    go_enter Tryd.func44, Tryd.ntmps44
    go_wp2_with (go_at_call 61; refine (HE.out _).mono ?_; rintro e w1 ⟨rfl, hb⟩)
    refine wp_loop_rounds 1 ?_
    rw [rounds_succ]; go_wp2
    go_ret
    exact ⟨rfl, bnext (balloc (Below.refl _ _) _) hb⟩
  · have hc : ((a : Int) == (x : Int)) = false := by rw [beq_eq_false_iff_ne]; omega
    by_cases h2 : x = z
    · have hc2 : ((z : Int) == (x : Int)) = true := by rw [beq_iff_eq]; omega
      rw [show (decide (x = a) || decide (x = z)) = true by simp [h2]]
      clear h1 h2
      go_enter Tryd.func44, Tryd.ntmps44
      go_wp2_with (go_at_call 61; refine (HE.out _).mono ?_; rintro e w1 ⟨rfl, hb⟩)
      refine wp_loop_rounds 2 ?_
      rw [rounds_succ]; go_wp2
      rw [rounds_succ]; go_wp2
      go_ret
      exact ⟨rfl, bnext (balloc (Below.refl _ _) _) hb⟩
    · have hc2 : ((z : Int) == (x : Int)) = false := by rw [beq_eq_false_iff_ne]; omega
      rw [show (decide (x = a) || decide (x = z)) = false by simp [h1, h2]]
      clear h1 h2
      go_enter Tryd.func44, Tryd.ntmps44
      go_wp2_with (go_at_call 61; refine (HE.out _).mono ?_; rintro e w1 ⟨rfl, hb⟩)
      refine wp_loop_rounds 3 ?_
      rw [rounds_succ]; go_wp2
      rw [rounds_succ]; go_wp2
      rw [rounds_succ]; go_wp2
      go_ret
      exact ⟨rfl, bnext (balloc (Below.refl _ _) _) hb⟩
end Go.Proofs.YtfgbliglgdkgpaaDoor
