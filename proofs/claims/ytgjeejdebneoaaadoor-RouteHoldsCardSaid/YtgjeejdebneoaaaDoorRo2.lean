/- route: what a State must have (states), a table of functions; may a route be (Check)? -/
import Derived.Test.YtgjeejdebneoaaaDoorRo1
import Derived.Maps.OwnOps
import Derived.Shelf.RegionOpen
namespace Go.Proofs.YtgjeejdebneoaaaDoor
set_option linter.unusedVariables false
set_option linter.unusedSimpArgs false
open Go.RowKit
set_option maxRecDepth 100000

/-- a store of a new key into a map of integer keys -/
theorem wpList_insert_new {P : Program} (w : World) {ops : Array Oper} {rest : List Oper} {o : Oper} {a : Act} {Q : Exit → Act → World → Prop}
    (hg : o.guard = none) (m x v : Operand) (t : TypeId) (hop : o.op = Op.insert t m x v)
    (k e : TypeId) (ht : P.underlying t = some (.map k e)) (hk : P.underlying k = some (.int .i64)) (b : Nat) (es : Array MapEntry) (clock : Nat)
    (hm : a.eval m = .map (some b)) (hb : w.heap[b]? = some (.map es clock)) (c : Int) (hx : a.eval x = .int .i64 c) (val : Value) (hv : a.eval v = val)
    (hf : Instr.findNow (.int .i64) (.int .i64 c) es.toList 0 = some none)
    (hK : ∀ w', w'.heap[b]? = some (.map (es.push ⟨.int .i64 c, val, clock⟩) (clock + 1)) → w.grownBy w' (some b) → w'.heap.size = w.heap.size → wpList P ops Q rest (a.put o.dst undef) w') :
    wpList P ops Q (o :: rest) a w := by
  refine wpList_plain hg fun K' hK' => ?_
  have hfk : (Instr.findKey k (.int .i64 c) es.toList).run P w = .ok none w := by
    simp [Instr.findKey, run_underlying hk, hf, Result.andThen]
  have hlt : b < w.heap.size := by
    rcases Nat.lt_or_ge b w.heap.size with h | h
    · exact h
    · rw [Array.getElem?_eq_none h] at hb; cases hb
  have hrun : (Instr.mapUpdate t (.map (some b)) (.int .i64 c) val).run P w = .ok () { w with heap := w.heap.setIfInBounds b (.map (es.push ⟨.int .i64 c, val, clock⟩) (clock + 1)) } := by
    simp [Instr.mapUpdate, run_underlying ht, MapKept.run_getObj_map hb, MapKept.run_checkKey hk (show MapKept.IsKey (.int .i64) (.int .i64 c) from rfl), hfk, MapKept.run_setObj_map _ hb, Result.andThen]
  unfold Oper.wp
  simp [execOp, hop, hm, hx, hv, hrun, Result.andThen]
  refine hK' _ _ (hK _ ?_ ⟨rfl, rfl, rfl, by simp, ?_⟩ (by simp))
  · simp [hlt]
  · intro j hj hne
    simp only [Array.getElem?_setIfInBounds]
    rw [if_neg (fun e => hne (by rw [e]))]

/-- the functions of the five states -/
def stV (f : Nat) : Value := .iface 85 (.func (.func f) #[] #[])
def esS : Array MapEntry := #[⟨.int .i64 0, stV 58, 0⟩, ⟨.int .i64 1, stV 61, 1⟩, ⟨.int .i64 2, stV 62, 2⟩, ⟨.int .i64 3, stV 64, 3⟩, ⟨.int .i64 4, stV 65, 4⟩]
def fnR (st : Int) : Nat := if st = 0 then 58 else if st = 1 then 61 else if st = 2 then 62 else if st = 3 then 64 else 65
theorem esS_has (st : Int) (h : 0 ≤ st ∧ st ≤ 4) : Instr.findNow (.int .i64) (.int .i64 st) esS.toList 0 = some (some (st.toNat, stV (fnR st))) := by
  rcases (by omega : st = 0 ∨ st = 1 ∨ st = 2 ∨ st = 3 ∨ st = 4) with rfl | rfl | rfl | rfl | rfl <;> rfl
theorem esS_not (st : Int) (h : ¬ (0 ≤ st ∧ st ≤ 4)) : Instr.findNow (.int .i64) (.int .i64 st) esS.toList 0 = some none := by
  have e0 : (st == 0) = false := by simp; omega
  have e1 : (st == 1) = false := by simp; omega
  have e2 : (st == 2) = false := by simp; omega
  have e3 : (st == 3) = false := by simp; omega
  have e4 : (st == 4) = false := by simp; omega
  simp [esS, Instr.findNow, Instr.sameNow, e0, e1, e2, e3, e4]
theorem lkS_has (b : Nat) (st : Int) (w : World) (hb : w.heap[b]? = some (.map esS 5)) (h : 0 ≤ st ∧ st ≤ 4) :
    (Instr.lookup 83 (.map (some b)) (.int .i64 st) true).run Tryd.prog w = .ok (.tuple #[stV (fnR st), .bool true]) w := by
  have hfk : (Instr.findKey 29 (.int .i64 st) esS.toList).run Tryd.prog w = .ok (some (st.toNat, stV (fnR st))) w := by
    simp [Instr.findKey, run_underlying Tryd.underlying29, esS_has st h, Result.andThen]
  simp [Instr.lookup, run_underlying Tryd.underlying83, MapKept.run_getObj_map hb, MapKept.run_checkKey Tryd.underlying29 (show MapKept.IsKey (.int .i64) (.int .i64 st) from rfl), hfk, Result.andThen]
theorem zero_any (w : World) : (zeroValue 20).run Tryd.prog w = .ok .nilIface w := by kernel_rfl
theorem lkS_not (b : Nat) (st : Int) (w : World) (hb : w.heap[b]? = some (.map esS 5)) (h : ¬ (0 ≤ st ∧ st ≤ 4)) :
    (Instr.lookup 83 (.map (some b)) (.int .i64 st) true).run Tryd.prog w = .ok (.tuple #[.nilIface, .bool false]) w := by
  have hfk : (Instr.findKey 29 (.int .i64 st) esS.toList).run Tryd.prog w = .ok none w := by
    simp [Instr.findKey, run_underlying Tryd.underlying29, esS_not st h, Result.andThen]
  simp [Instr.lookup, run_underlying Tryd.underlying83, MapKept.run_getObj_map hb, MapKept.run_checkKey Tryd.underlying29 (show MapKept.IsKey (.int .i64) (.int .i64 st) from rfl), hfk, zero_any, Result.andThen]

set_option maxHeartbeats 1000000 in
theorem states_any (w : World) :
    Calls Tryd.prog 40 #[] w fun e w' => e = .returned (.map (some w.heap.size)) ∧ w'.heap[w.heap.size]? = some (.map esS 5) ∧ Below w.heap.size w w' := by
  have hmm := @run_makeMap Tryd.prog
  have h0 : (w.alloc (.map #[] 0)).heap[w.heap.size]? = some (.map #[] 0) := (MapKept.heap_alloc w _).1
  go_enter Tryd.func40, Tryd.ntmps40
  go_wp2_with (first
    | (refine wpList_insert_new _ rfl _ _ _ _ rfl _ _ Tryd.underlying83 Tryd.underlying29 w.heap.size _ 0 rfl h0 0 rfl _ rfl rfl ?_; intro w1 h1 g1 s1)
    | (refine wpList_insert_new _ rfl _ _ _ _ rfl _ _ Tryd.underlying83 Tryd.underlying29 w.heap.size _ 1 rfl h1 1 rfl _ rfl rfl ?_; intro w2 h2 g2 s2)
    | (refine wpList_insert_new _ rfl _ _ _ _ rfl _ _ Tryd.underlying83 Tryd.underlying29 w.heap.size _ 2 rfl h2 2 rfl _ rfl rfl ?_; intro w3 h3 g3 s3)
    | (refine wpList_insert_new _ rfl _ _ _ _ rfl _ _ Tryd.underlying83 Tryd.underlying29 w.heap.size _ 3 rfl h3 3 rfl _ rfl rfl ?_; intro w4 h4 g4 s4)
    | (refine wpList_insert_new _ rfl _ _ _ _ rfl _ _ Tryd.underlying83 Tryd.underlying29 w.heap.size _ 4 rfl h4 4 rfl _ rfl rfl ?_; intro w5 h5 g5 s5))
  go_ret
  refine ⟨rfl, h5, ?_⟩
  have b0 := balloc (Below.refl w.heap.size w) (.map #[] 0)
  have k1 := b0.grown g1 (by simp) (fun j hj => by cases hj; exact Nat.le_refl _)
  have k2 := k1.grown g2 (by rw [s1]; simp) (fun j hj => by cases hj; exact Nat.le_refl _)
  have k3 := k2.grown g3 (by rw [s2, s1]; simp) (fun j hj => by cases hj; exact Nat.le_refl _)
  have k4 := k3.grown g4 (by rw [s3, s2, s1]; simp) (fun j hj => by cases hj; exact Nat.le_refl _)
  exact k4.grown g5 (by rw [s4, s3, s2, s1]; simp) (fun j hj => by cases hj; exact Nat.le_refl _)
end Go.Proofs.YtgjeejdebneoaaaDoor
