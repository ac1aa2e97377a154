/- Datagrams and entries that come in. -/
import Derived.Test.YtlanfceilajifaaGreatDoorMF
import Derived.Test.YtlanfceilajifaaGreatDoorOpenR
import Derived.Test.YtlanfceilajifaaGreatDoorOpen4
namespace Go.Proofs.YtlanfceilajifaaGreatDoor
set_option linter.unusedVariables false
set_option linter.unusedSimpArgs false
open Go.RowKit Go.ChangeShapes Go.WideShapes Go.Joins Go.Deep
set_option maxRecDepth 100000
theorem u8_of (a : Int) (h : 0 ≤ a ∧ a ≤ 255) : ∃ X : UInt8, a = (X.toNat : Int) := ⟨UInt8.ofNat a.toNat, by simp; omega⟩
instance : Inhabited Er := ⟨⟨0, 0, 0, 0, 0, 0⟩⟩
section
variable {H : Type} {enc : TypeId × Value → H} {w : World} {base : Nat} {spare : Nat → Bool} {held : Bool} {r : Reach} {b0 : Nat} {v : Value} {d : DataW H} {p : List MemPlace}
theorem trod_er {fuel : Nat} {cs : List Value} {y : DataW H × List MemPlace} (hlen : cs.length = 6) (hf : DataW.trod enc Tryz.prog w base spare held fuel 57 cs = some y) : ∃ x : Er, cs = erL x ∧ fitR x := by
  match cs, hlen with
  | [c0, c1, c2, c3, c4, c5], _ =>
    obtain ⟨ys, n, _, _, _, hlen, hg⟩ := DataW.trod_struct Tryz.underlying57 hf
    have q3 : Tryz.prog.cellsOf 3 = 1 := by kernel_rfl
    have q23 : Tryz.prog.cellsOf 24 = 1 := by kernel_rfl
    have q22 : Tryz.prog.cellsOf 23 = 1 := by kernel_rfl
    match ys, hlen with
    | [y0, y1, y2, y3, y4, y5], _ =>
      have h0 := hg 0 _ rfl
      have h1 := hg 1 _ rfl
      have h2 := hg 2 _ rfl
      have h3 := hg 3 _ rfl
      have h4 := hg 4 _ rfl
      have h5 := hg 5 _ rfl
      simp [q3, q23, q22] at h0 h1 h2 h3 h4 h5
      obtain ⟨z0, rfl, _⟩ := one_int Tryz.underlying3 h0
      obtain ⟨z1, rfl, _⟩ := one_int Tryz.underlying3 h1
      obtain ⟨z2, rfl, k2⟩ := one_int Tryz.underlying24 h2
      obtain ⟨z3, rfl, k3⟩ := one_int Tryz.underlying24 h3
      obtain ⟨z4, rfl, k4⟩ := one_int Tryz.underlying24 h4
      obtain ⟨z5, rfl, k5⟩ := one_int Tryz.underlying23 h5
      have b2 := bounds_u32 k2
      have b3 := bounds_u32 k3
      have b4 := bounds_u32 k4
      have b5 := bounds_u32 k5
      obtain ⟨a, rfl⟩ := Int.eq_ofNat_of_zero_le b2.1
      obtain ⟨m, rfl⟩ := Int.eq_ofNat_of_zero_le b3.1
      obtain ⟨x, rfl⟩ := Int.eq_ofNat_of_zero_le b4.1
      obtain ⟨k, rfl⟩ := Int.eq_ofNat_of_zero_le b5.1
      refine ⟨⟨z0, z1, a, m, x, k⟩, rfl, ?_⟩
      exact ⟨by show a < _; omega, by show m < _; omega, by show x < _; omega, by show k < _; omega⟩
theorem one_ers {fuel : Nat} {c : Value} {y : DataW H × List MemPlace} (h : DataW.trod enc Tryz.prog w base spare held fuel 33 [c] = some y) :
    ∃ A cap, ∃ l : List Er, c = .slice A l.length cap ∧ l.length ≤ cap ∧ cap ≤ maxLen ∧ Rd w w.heap.size A (erC l) ∧ ∀ x ∈ l, fitR x :=
  open_recs erL 6 erL_len (by omega) fitR Tryz.underlying33 (by kernel_rfl) (fun n cs y hl hc => trod_er hl hc) h
theorem open_ers (hv : Value.okWide Tryz.prog w r b0 33 v) (h : DataW.Trod enc Tryz.prog w base spare held 33 v d p) :
    ∃ A cap, ∃ l : List Er, v = .slice A l.length cap ∧ l.length ≤ cap ∧ cap ≤ maxLen ∧ Rd w w.heap.size A (erC l) ∧ ∀ x ∈ l, fitR x := by
  obtain ⟨a, len, cap, rfl⟩ := okWide_slice Tryz.underlying33 hv
  obtain ⟨fuel, hf⟩ := h
  exact one_ers (by simpa [Value.cells] using hf)
theorem open_dg (hv : Value.okWide Tryz.prog w r b0 35 v) (h : DataW.Trod enc Tryz.prog w base spare held 35 v d p) :
    ∃ (cm : Int) (A : Option Addr) (cap : Nat) (l : List Er), v = .agg #[.int .i64 cm, .slice A l.length cap] ∧ l.length ≤ cap ∧ cap ≤ maxLen ∧ Rd w w.heap.size A (erC l) ∧ ∀ x ∈ l, fitR x := by
  obtain ⟨c0, c1, y0, y1, m, rfl, _, _, h0, h1⟩ := open_agg2 Tryz.underlying35 (by kernel_rfl) (by kernel_rfl) hv h
  obtain ⟨z0, rfl, k0⟩ := one_int Tryz.underlying32 h0
  obtain ⟨A, cap, l, rfl, e1, e2, e3, e4⟩ := one_ers h1
  exact ⟨z0, A, cap, l, rfl, e1, e2, e3, e4⟩
end
end Go.Proofs.YtlanfceilajifaaGreatDoor
