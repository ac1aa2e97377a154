/- EntryBytes: plain laws, and entry.Read of any bytes in one word. -/
import Derived.Test.YtpadlillbofpnaaDoorEBy2
namespace Go.Proofs.YtpadlillbofpnaaDoor
set_option linter.unusedVariables false
set_option linter.unusedSimpArgs false
open Go.RowKit
set_option maxRecDepth 100000

theorem bs_fld (l : List UInt8) (p k : Nat) (h : p + k ≤ l.length) : bs k (fld l p k) = (l.drop p).take k := by
  have hl : ((l.drop p).take k).length = k := by simp; omega
  have := bs_be ((l.drop p).take k)
  rw [hl] at this
  exact this
/-- the bytes of the entry that was read -/
theorem entB_read (l : List UInt8) (h : 20 ≤ l.length) : entB (fld l 0 2) (fld l 2 2) (fld l 4 4) (fld l 8 4) (fld l 12 4) (fld l 16 4) = l.take 20 := by
  unfold entB
  rw [bs_fld l 0 2 (by omega), bs_fld l 2 2 (by omega), bs_fld l 4 4 (by omega), bs_fld l 8 4 (by omega), bs_fld l 12 4 (by omega), bs_fld l 16 4 (by omega)]
  have e1 : ∀ (p k n : Nat), (l.drop p).take (k + n) = (l.drop p).take k ++ (l.drop (p + k)).take n := fun p k n => by rw [List.take_add, List.drop_drop]
  rw [show (20 : Nat) = 2 + (2 + (4 + (4 + (4 + 4)))) from rfl, ← List.drop_zero (l := l), e1, e1, e1, e1, e1]
  simp
theorem fld_bs (pre rest : List UInt8) (p k n : Nat) (hp : pre.length = p) (hn : n < 256 ^ k) : fld (pre ++ (bs k n ++ rest)) p k = n := by
  unfold fld
  rw [List.drop_append_of_le_length (by omega), List.drop_of_length_le (by omega), List.nil_append, List.take_append_of_le_length (by rw [bs_length]; exact Nat.le_refl _), List.take_of_length_le (by rw [bs_length]; exact Nat.le_refl _), be_bs, Nat.mod_eq_of_lt hn]
/-- the entry of an entry's bytes -/
theorem read_entB (f t a m x k : Nat) (l : List UInt8) (hf : f < 65536) (ht : t < 65536) (ha : a < 4294967296) (hm : m < 4294967296) (hx : x < 4294967296) (hk : k < 4294967296) :
    readE (entB f t a m x k ++ l) = .agg #[.int .i64 f, .int .i64 t, .int .u32 a, .int .u32 m, .int .u32 x, .int .u32 k] := by
  unfold readE
  have e : entB f t a m x k ++ l = bs 2 f ++ (bs 2 t ++ (bs 4 a ++ (bs 4 m ++ (bs 4 x ++ (bs 4 k ++ l))))) := by simp [entB]
  have e0 : fld (entB f t a m x k ++ l) 0 2 = f := by rw [e]; exact fld_bs [] _ 0 2 f rfl (by omega)
  have e1 : fld (entB f t a m x k ++ l) 2 2 = t := by rw [e]; exact fld_bs (bs 2 f) _ 2 2 t (bs_length _ _) (by omega)
  have e2 : fld (entB f t a m x k ++ l) 4 4 = a := by
    rw [e, show bs 2 f ++ (bs 2 t ++ (bs 4 a ++ (bs 4 m ++ (bs 4 x ++ (bs 4 k ++ l))))) = (bs 2 f ++ bs 2 t) ++ (bs 4 a ++ (bs 4 m ++ (bs 4 x ++ (bs 4 k ++ l)))) by simp]
    exact fld_bs _ _ 4 4 a (by simp [bs_length]) (by omega)
  have e3 : fld (entB f t a m x k ++ l) 8 4 = m := by
    rw [e, show bs 2 f ++ (bs 2 t ++ (bs 4 a ++ (bs 4 m ++ (bs 4 x ++ (bs 4 k ++ l))))) = (bs 2 f ++ (bs 2 t ++ bs 4 a)) ++ (bs 4 m ++ (bs 4 x ++ (bs 4 k ++ l))) by simp]
    exact fld_bs _ _ 8 4 m (by simp [bs_length]) (by omega)
  have e4 : fld (entB f t a m x k ++ l) 12 4 = x := by
    rw [e, show bs 2 f ++ (bs 2 t ++ (bs 4 a ++ (bs 4 m ++ (bs 4 x ++ (bs 4 k ++ l))))) = (bs 2 f ++ (bs 2 t ++ (bs 4 a ++ bs 4 m))) ++ (bs 4 x ++ (bs 4 k ++ l)) by simp]
    exact fld_bs _ _ 12 4 x (by simp [bs_length]) (by omega)
  have e5 : fld (entB f t a m x k ++ l) 16 4 = k := by
    rw [e, show bs 2 f ++ (bs 2 t ++ (bs 4 a ++ (bs 4 m ++ (bs 4 x ++ (bs 4 k ++ l))))) = (bs 2 f ++ (bs 2 t ++ (bs 4 a ++ (bs 4 m ++ bs 4 x)))) ++ (bs 4 k ++ l) by simp]
    exact fld_bs _ _ 16 4 k (by simp [bs_length]) (by omega)
  rw [e0, e1, e2, e3, e4, e5]
theorem eread_bad (l : List UInt8) (A : Option Addr) (c : Nat) (w : World) (hw : WidthsAt w) (hrd : Rd w w.heap.size A (l.map b8)) (hlc : l.length ≤ c) (hcm : c ≤ 9223372036854775807) (hl : l.length < 20) :
    Calls Tryd.prog 47 #[.slice A l.length c] w fun e w' => e = .returned (.tuple #[.agg #[.int .i64 0, .int .i64 0, .int .u32 0, .int .u32 0, .int .u32 0, .int .u32 0], .int .i64 130]) ∧ Below w.heap.size w w' := by
  by_cases h0 : l.length < 2
  · exact eread_bad0 l _ rfl A c w hw hrd hlc hcm (by omega) h0
  by_cases h1 : l.length < 4
  · exact eread_bad1 l _ rfl A c w hw hrd hlc hcm (by omega) h1
  by_cases h2 : l.length < 8
  · exact eread_bad2 l _ rfl A c w hw hrd hlc hcm (by omega) h2
  by_cases h3 : l.length < 12
  · exact eread_bad3 l _ rfl A c w hw hrd hlc hcm (by omega) h3
  by_cases h4 : l.length < 16
  · exact eread_bad4 l _ rfl A c w hw hrd hlc hcm (by omega) h4
  · exact eread_bad5 l _ rfl A c w hw hrd hlc hcm (by omega) hl
end Go.Proofs.YtpadlillbofpnaaDoor
