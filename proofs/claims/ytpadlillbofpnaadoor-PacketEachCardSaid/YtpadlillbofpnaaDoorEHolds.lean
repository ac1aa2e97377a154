/- EntryHolds: the walk. -/
import Derived.Test.YtpadlillbofpnaaDoorWorks4
import Derived.Test.YtpadlillbofpnaaDoorEq
import Derived.Deep.DeepCutAuto
namespace Go.Proofs.YtpadlillbofpnaaDoor
set_option linter.unusedVariables false
set_option linter.unusedSimpArgs false
open Go.RowKit
set_option maxRecDepth 100000

/-- what Bytes answers -/
def bytF (f t : Int) (a m x k : Nat) : List UInt8 × Int := if 0 ≤ f ∧ f ≤ 65535 ∧ 0 ≤ t ∧ t ≤ 65535 then (entB f.toNat t.toNat a m x k, 0) else ([], 2)
theorem bytes_any (f t : Int) (a m x k : Nat) (w : World) (hw : WidthsAt w) (ha : a < 4294967296) (hm : m < 4294967296) (hx : x < 4294967296) (hk : k < 4294967296) :
    Calls Tryd.prog 32 #[.agg #[.int .i64 f, .int .i64 t, .int .u32 a, .int .u32 m, .int .u32 x, .int .u32 k]] w (GivesB (bytF f t a m x k).1 (bytF f t a m x k).2 w) := by
  unfold bytF
  by_cases h : 0 ≤ f ∧ f ≤ 65535 ∧ 0 ≤ t ∧ t ≤ 65535
  · rw [if_pos h]
    obtain ⟨f, rfl⟩ := Int.eq_ofNat_of_zero_le h.1
    obtain ⟨t, rfl⟩ := Int.eq_ofNat_of_zero_le h.2.2.1
    exact bytes_ok f t a m x k w hw (by omega) (by omega) ha hm hx hk
  · rw [if_neg h]
    exact bytes_no f t a m x k w (by omega)
theorem bs_inj (k n m : Nat) (hn : n < 256 ^ k) (hm : m < 256 ^ k) (h : bs k n = bs k m) : n = m := by
  have h1 := be_bs k n
  have h2 := be_bs k m
  rw [h, h2, Nat.mod_eq_of_lt hn, Nat.mod_eq_of_lt hm] at h1
  exact h1.symm
theorem entB_inj (f t a m x k f' t' a' m' x' k' : Nat) (hf : f < 65536) (ht : t < 65536) (ha : a < 4294967296) (hm : m < 4294967296) (hx : x < 4294967296) (hk : k < 4294967296)
    (hf' : f' < 65536) (ht' : t' < 65536) (ha' : a' < 4294967296) (hm' : m' < 4294967296) (hx' : x' < 4294967296) (hk' : k' < 4294967296)
    (h : entB f t a m x k = entB f' t' a' m' x' k') : f = f' ∧ t = t' ∧ a = a' ∧ m = m' ∧ x = x' ∧ k = k' := by
  unfold entB at h
  obtain ⟨h1, h⟩ := List.append_inj h (by simp [bs_length])
  obtain ⟨h2, h⟩ := List.append_inj h (by simp [bs_length])
  obtain ⟨h3, h⟩ := List.append_inj h (by simp [bs_length])
  obtain ⟨h4, h⟩ := List.append_inj h (by simp [bs_length])
  obtain ⟨h5, h6⟩ := List.append_inj h (by simp [bs_length])
  exact ⟨bs_inj 2 _ _ (by omega) (by omega) h1, bs_inj 2 _ _ (by omega) (by omega) h2, bs_inj 4 _ _ (by omega) (by omega) h3, bs_inj 4 _ _ (by omega) (by omega) h4, bs_inj 4 _ _ (by omega) (by omega) h5, bs_inj 4 _ _ (by omega) (by omega) h6⟩
theorem wrap_ne (n : Int) (h0 : 0 < n) (h1 : n < 1000) : (wrap64 n == 0) = false := by
  rw [IntWalk.wrap64_in n ⟨by omega, by omega⟩]
  simp
  omega
/-- two entries of the same bytes -/
theorem bytF_same (f t f' t' : Int) (a m x k a' m' x' k' : Nat) (ha : a < 4294967296) (hm : m < 4294967296) (hx : x < 4294967296) (hk : k < 4294967296)
    (ha' : a' < 4294967296) (hm' : m' < 4294967296) (hx' : x' < 4294967296) (hk' : k' < 4294967296) :
    (((bytF f t a m x k).2 = 0 ∧ (bytF f' t' a' m' x' k').2 = 0 ∧ ((bytF f t a m x k).1 == (bytF f' t' a' m' x' k').1) = (f == f' && t == t' && (a : Int) == a' && (m : Int) == m' && (x : Int) == x' && (k : Int) == k')) ∨
      (wrap64 ((bytF f t a m x k).2 + (bytF f' t' a' m' x' k').2) == 0) = false) := by
  by_cases h : 0 ≤ f ∧ f ≤ 65535 ∧ 0 ≤ t ∧ t ≤ 65535
  · by_cases h' : 0 ≤ f' ∧ f' ≤ 65535 ∧ 0 ≤ t' ∧ t' ≤ 65535
    · refine .inl ⟨by simp [bytF, h], by simp [bytF, h'], ?_⟩
      unfold bytF
      rw [if_pos h, if_pos h']
      rw [Bool.eq_iff_iff]
      simp only [beq_iff_eq, Bool.and_eq_true]
      constructor
      · intro e
        obtain ⟨e1, e2, e3, e4, e5, e6⟩ := entB_inj _ _ _ _ _ _ _ _ _ _ _ _ (by omega) (by omega) ha hm hx hk (by omega) (by omega) ha' hm' hx' hk' e
        omega
      · rintro ⟨⟨⟨⟨⟨e1, e2⟩, e3⟩, e4⟩, e5⟩, e6⟩
        obtain rfl : a = a' := by omega
        obtain rfl : m = m' := by omega
        obtain rfl : x = x' := by omega
        obtain rfl : k = k' := by omega
        rw [e1, e2]
    · exact .inr (by unfold bytF; rw [if_pos h, if_neg h']; exact wrap_ne 2 (by omega) (by omega))
  · refine .inr ?_
    unfold bytF
    rw [if_neg h]
    split
    · exact wrap_ne 2 (by omega) (by omega)
    · exact wrap_ne 4 (by omega) (by omega)
theorem lenF_inj (m m' : Nat) (h : (lenF m).2 = 0) (h' : (lenF m').2 = 0) (e : (lenF m).1 = (lenF m').1) : m = m' := by
  rw [(lenF_ok m h).1, (lenF_ok m' h').1, e]
theorem prefF_cases (f : Int) (a m x k : Nat) : (prefF f a m x k = ((a, (lenF m).1), 0) ∧ whyF f a m x k = 0) ∨ (prefF f a m x k = ((0, 0), 140) ∧ whyF f a m x k ≠ 0) := by
  unfold prefF
  by_cases h : whyF f a m x k = 0
  · exact .inl ⟨by rw [if_pos h], h⟩
  · exact .inr ⟨by rw [if_neg h], h⟩
/-- a good entry of Tag 0 is the entry of its prefix -/
theorem of_back (f : Int) (a m x k : Nat) (ha : a < 4294967296) (h : whyF f a m x k = 0) :
    f = 2 ∧ x = 0 ∧ k ≤ 16 ∧ ofV a (lenF m).1 k = .tuple #[.agg #[.int .i64 2, .int .i64 0, .int .u32 a, .int .u32 m, .int .u32 0, .int .u32 k], .int .i64 0] := by
  obtain ⟨h1, h2, h3, h4, h5, h6, h7⟩ := (whyF_zero f a m x k).1 h
  refine ⟨h1, h5, h7, ?_⟩
  have hl := lenF_ok m h2
  have hp := okP_bits a m ha h2
  rw [h3] at hp
  have : okOf a (lenF m).1 k = true := by
    unfold okOf
    rw [hp, Int.toNat_natCast, ← hl.1, h4]
    simp
    omega
  unfold ofV
  rw [if_pos this, Int.toNat_natCast, ← hl.1]
end Go.Proofs.YtpadlillbofpnaaDoor
