/- Rows of many cells, taken whole: a load or a store of a struct of sixteen cells is one step. -/
import Derived.Test.YtlanfceilajifaaGreatDoorMD
import Derived.Deep.MidRow
import Derived.Laws.Tables
namespace Go.Proofs.YtlanfceilajifaaGreatDoor
set_option linter.unusedVariables false
set_option linter.unusedSimpArgs false
open Go.RowKit
/-- n cells stand in a block from o on -/
def rowOk (w : World) (b o n : Nat) : Bool := match w.heap[b]? with
  | some (.cells cs _ fr) => decide (o + n ≤ cs.size) && fr == (0, 0)
  | _ => false
def rowOf (w : World) (b o n : Nat) : Array Value := match w.heap[b]? with
  | some (.cells cs _ _) => cs.extract o (o + n)
  | _ => #[]
/-- a block is n cells -/
def rowIs (w : World) (b n : Nat) : Bool := match w.heap[b]? with
  | some (.cells cs _ fr) => cs.size == n && fr == (0, 0)
  | _ => false
def okRow (n : Nat) (cs : Array Value) : Bool := cs.size == n && cs.all (·.oneCell')
section
variable {w : World} {g n : Nat} {t : TypeId} {cs : Array Value}
theorem Blk.row (h : Blk w g t cs) (hs : cs.size = n) : rowIs w g n = true ∧ rowOk w g 0 n = true ∧ rowOf w g 0 n = cs := by
  unfold Blk at h
  subst hs
  simp [rowIs, rowOk, rowOf, h]
theorem Blk.mid (h : Blk w g t cs) (o : Nat) (hs : o + n ≤ cs.size) : rowOk w g o n = true ∧ rowOf w g o n = cs.extract o (o + n) := by
  unfold Blk at h
  simp [rowOk, rowOf, h, hs]
theorem Blk.setRow (h : Blk w g t cs) (cs' : Array Value) : Blk (w.setRow g cs') g t cs' := setRow_heap w g cs cs' t _ h
theorem Blk.setRow_ne (h : Blk w g t cs) {b : Nat} (hb : g ≠ b) (cs' : Array Value) : Blk (w.setRow b cs') g t cs := (setRow_other w b g cs' hb).trans h
theorem below_setRow16 {B b : Nat} {w0 w1 : World} (h : Below B w0 w1) (hb : B ≤ b) (cs : Array Value) : Below B w0 (w1.setRow b cs) :=
  h.trans ⟨rfl, rfl, rfl, by simp [World.setRow], fun k hk => setRow_other w1 b k cs (by omega)⟩
theorem Fr.setRow {p : Nat → Prop} {w : World} {b : Nat} (hb : ∀ k, p k → k ≠ b) (cs : Array Value) : Fr p w (w.setRow b cs) :=
  ⟨rfl, rfl, rfl, by simp [World.setRow], fun k hk _ => setRow_other w b k cs (hb k hk)⟩
end
section
variable {P : Program}
theorem rowOk_at {w : World} {b o n : Nat} (h : rowOk w b o n = true) : ∃ cs t, w.heap[b]? = some (.cells cs t (0, 0)) ∧ o + n ≤ cs.size := by
  unfold rowOk at h
  split at h
  · rename_i cs t fr hh
    simp at h
    obtain ⟨h1, rfl⟩ := h
    exact ⟨cs, t, hh, h1⟩
  · cases h
theorem rowOf_size {w : World} {b o n : Nat} (h : rowOk w b o n = true) : (rowOf w b o n).size = n := by
  obtain ⟨cs, t, hh, h2⟩ := rowOk_at h
  simp [rowOf, hh]
  omega
theorem run_ldrow {w : World} (t : TypeId) (d : TypeDesc) (b o n : Nat) (hu : P.underlying t = some d) (hd : d.isRow = true) (hi : (P.info? t).map (·.size) = some n) (h : rowOk w b o n = true) :
    (loadVar t ⟨b, o, none⟩).run P w = .ok (.agg (rowOf w b o n)) w := by
  have h2 := rowOf_size h
  have := run_loadVar_mid (P := P) w b o t (rowOf w b o n).toList d (fun j v hv => by
    obtain ⟨cs, t, hh, h2⟩ := rowOk_at h
    simp only [rowOf, hh] at hv
    rw [cell_of_row w b (o + j) cs t _ hh]
    simp only [Array.getElem?_toList, Array.getElem?_extract] at hv
    split at hv
    · exact hv
    · cases hv) hu hd (by rw [hi]; simp [h2])
  simpa using this
theorem run_strow {w : World} (t : TypeId) (b n : Nat) (cs : Array Value) (hi : (P.info? t).map (·.size) = some n) (h : rowIs w b n = true) (hc : okRow n cs = true) :
    (storeVar t ⟨b, 0, none⟩ (.agg cs)).run P w = .ok () (w.setRow b cs) := by
  unfold rowIs at h
  unfold okRow at hc
  simp only [Bool.and_eq_true, beq_iff_eq] at hc
  split at h
  · rename_i old t' fr hh
    simp only [Bool.and_eq_true, beq_iff_eq] at h
    obtain ⟨h1, rfl⟩ := h
    exact run_storeVar_row w b t' t old cs hh (by rw [hi, hc.1]) (by rw [h1, hc.1]) hc.2
  · cases h
theorem results_ct {fn : Func} {p q : Tmp} {ty : TypeId} (h : fn.results = #[.cell p ty, .tmp q]) (tmps : Array Value) (w : World) (b : Nat) (cs : Array Value) (v : Value)
    (hp : tmps.getD p undef = .pointer (some ⟨b, 0, none⟩)) (hl : (loadVar ty ⟨b, 0, none⟩).run P w = .ok (.agg cs) w) (hv : tmps.getD q undef = v) : (results fn tmps).run P w = .ok (.tuple #[.agg cs, v]) w := by
  have hp' : tmps[p]?.getD undef = .pointer (some ⟨b, 0, none⟩) := by simpa using hp
  have hv' : tmps[q]?.getD undef = v := by simpa using hv
  simp [results, h, hp', hv', asAddr, hl]
theorem results_tct {fn : Func} {p q r : Tmp} {ty : TypeId} (h : fn.results = #[.tmp r, .cell p ty, .tmp q]) (tmps : Array Value) (w : World) (b : Nat) (cs : Array Value) (v u : Value)
    (hp : tmps.getD p undef = .pointer (some ⟨b, 0, none⟩)) (hl : (loadVar ty ⟨b, 0, none⟩).run P w = .ok (.agg cs) w) (hv : tmps.getD q undef = v) (hu : tmps.getD r undef = u) : (results fn tmps).run P w = .ok (.tuple #[u, .agg cs, v]) w := by
  have hp' : tmps[p]?.getD undef = .pointer (some ⟨b, 0, none⟩) := by simpa using hp
  have hv' : tmps[q]?.getD undef = v := by simpa using hv
  have hu' : tmps[r]?.getD undef = u := by simpa using hu
  simp [results, h, hp', hv', hu', asAddr, hl]
end
end Go.Proofs.YtlanfceilajifaaGreatDoor
