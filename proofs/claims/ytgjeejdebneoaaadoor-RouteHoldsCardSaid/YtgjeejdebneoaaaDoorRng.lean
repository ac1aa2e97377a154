/- Plain words for ranges over a function: what a call that only makes memory keeps; boxes. -/
import Derived.Test.YtgjeejdebneoaaaDoorBase2
import Derived.RangeFuncNested
import Derived.RangeFuncBound
import Derived.RangeFuncCalls
import Derived.RangeFuncLeaves
import Derived.Shelf.Abstract
import Derived.Shelf.RegionOpen
import Derived.WalkKit
import Derived.OwnWalkIn
import Derived.TacticsInMore
import Derived.LoopNIn
import Derived.LoopIn
namespace Go.Proofs.YtgjeejdebneoaaaDoor
set_option linter.unusedVariables false
set_option linter.unusedSimpArgs false
open Go.RowKit Go.Shelf

/-- a scope whose labels nobody jumps to, inside the wide fence -/
theorem scope_in {n : Nat} {P : Program} {Q : Exit → Act → World → Prop} {a : Act} {w : World} {c : Code} (h : c.wpIn Fence.wide n P (Exit.noGoto Q) a w) : (Code.scope c).wpIn Fence.wide n P Q a w :=
  wpIn_wide.2 (wp_scope_straight (wpIn_wide.1 h))
theorem keeps_below {B : Nat} {W W' : World} (h : Below W.heap.size W W') : KeepsFrom B W W' :=
  ⟨h.size, fun k o _ hk _ => (h.block k (Array.getElem?_eq_some_iff.1 hk).1).trans hk⟩
theorem below_none {W W' : World} (h : Below W.heap.size W W') : W.grownBy W' none := ⟨h.os, h.tape, h.output, h.size, fun k hk _ => h.block k hk⟩
theorem blk_own {β : Type} (B : Nat) (t : TypeId) (f : β → Array Value) : Own (fun s W => Blk W B t (f s)) := fun s X Y row hs hg hrow =>
  (hg.block B (Blk.lt hs) (fun e' => by obtain ⟨o, ho, hc⟩ := hrow B e'.symm; rw [show X.heap[B]? = _ from hs] at ho; cases ho; cases hc)).trans hs
theorem own_or {β : Type} {B : Nat} {I I' : β → World → Prop} (h : OwnFrom B I) (h' : OwnFrom B I') : OwnFrom B (fun s W => I s W ∨ I' s W) := fun s W W' row hs hg hr => hs.elim (fun a => .inl (h s W W' row a hg hr)) (fun a => .inr (h' s W W' row a hg hr))
/-- a row that is owned is a slice of so many -/
theorem own_shape {w : World} {base e n : Nat} {v : Value} {xs : List Value} (h : w.ownsRow base e 1 v n xs) : ∃ A c, v = .slice A n c ∧ n ≤ c ∧ c ≤ maxLen ∧ Rd w w.heap.size A xs := by
  rcases h.2 with ⟨rfl, h0⟩ | ⟨g, cap, cur, rfl, hg, _, hc, hm, _⟩
  · have := h.1
    subst h0
    simp at this
    subst this
    exact ⟨none, 0, rfl, by simp, by simp [maxLen], Rd.nil⟩
  · exact ⟨_, _, rfl, hc, hm, Rd.of_own h⟩
theorem own_base {w : World} {base e n size : Nat} {v : Value} {xs : List Value} (h : w.ownsRow base e size v n xs) : ∀ k, v.ownBlock = some k → base ≤ k := by
  intro k hk
  rcases h.2 with ⟨rfl, h0⟩ | ⟨g, cap, cur, rfl, hg, _⟩
  · simp [Value.ownBlock] at hk
  · simp [Value.ownBlock] at hk; omega
theorem own_shapeN {w : World} {base e n size : Nat} {v : Value} {xs : List Value} (h : w.ownsRow base e size v n xs) : ∃ A c, v = .slice A n c ∧ n ≤ c ∧ c ≤ maxLen ∧ Rd w w.heap.size A xs := by
  rcases h.2 with ⟨rfl, h0⟩ | ⟨g, cap, cur, rfl, hg, _, hc, hm, _⟩
  · subst h0
    have := h.1
    exact ⟨none, 0, rfl, by simp, by simp [maxLen], fun h0 => by simp [this] at h0⟩
  · exact ⟨_, _, rfl, hc, hm, Rd.of_own h⟩
theorem Boxed.blk {W : World} {B : Nat} {t : TypeId} {v : Value} (h : Boxed W B t v) : Blk W B t #[v] := h
theorem boxed_below {W W' : World} {n B : Nat} {t : TypeId} {v : Value} (h : Boxed W B t v) (hb : Below n W W') (hB : B < n) : Boxed W' B t v := (hb.block B hB).trans h
theorem range_snoc {pre : List Nat} (h : pre = List.range pre.length) : pre ++ [pre.length] = List.range (pre ++ [pre.length]).length := by
  rw [List.length_append, List.length_singleton, List.range_succ, ← h]
theorem range_last {pre : List Nat} {x : Nat} (h : pre ++ [x] = List.range (pre ++ [x]).length) : x = pre.length ∧ pre = List.range pre.length := by
  rw [List.length_append, List.length_singleton, List.range_succ] at h
  obtain ⟨h1, h2⟩ := List.append_inj' h rfl
  exact ⟨by simpa using h2, h1⟩
/-- a loop variable that lies in a block of its own -/
def AxB (Bn : Nat) (t : TypeId) (vals : Nat → Array Value) (mk : Nat → Nat → Act) (x : Nat) (a' : Act) (W : World) : Prop := ∃ Bx, Bn < Bx ∧ Blk W Bx t (vals x) ∧ a' = mk x Bx
theorem AxB_own {B Bn : Nat} {t : TypeId} {vals : Nat → Array Value} {mk : Nat → Nat → Act} (x : Nat) (a' : Act) : OwnFrom B (fun (_ : Unit) W => AxB Bn t vals mk x a' W) := fun u X Y row hs hg hr => by
  obtain ⟨Bx, k1, k2, k3⟩ := hs
  exact ⟨Bx, k1, blk_own Bx t (fun (_ : Unit) => vals x) () X Y row k2 hg (fun r e => (hr r e).2), k3⟩
theorem len_snoc {α : Type} (pre : List α) (x : α) : (pre ++ [x]).length = pre.length + 1 := by simp
/-- between two rounds of a loop that counts: what came is counted in a box; what lay below the box lies as it lay -/
def RI (W1 : World) (Bn : Nat) (p : List Nat → Prop) (pre : List Nat) (W : World) : Prop := (Boxed W Bn 3 (.int .i64 pre.length) ∧ Below Bn W1 W) ∧ p pre
/-- a round has left: by a return, which it does not; by a break -/
def RX (W1 : World) (Bn : Nat) (id : Nat) (p : List Nat → Prop) (c : Code) (pre : List Nat) (W : World) : Prop := (c = .ret ∧ pre ≠ List.range pre.length) ∨ (c = .exit id ∧ RI W1 Bn p pre W)
theorem RI_own {W1 : World} {Bn B : Nat} {p : List Nat → Prop} (hB : Bn < W1.heap.size) (hX : W1.heap.size ≤ B) : OwnFrom B (RI W1 Bn p) :=
  OwnFrom.and (OwnFrom.and (Own.from (boxed_own Bn 3 (fun pre : List Nat => .int .i64 pre.length)) _) (ownFrom_below (by omega) (by omega))) (ownFrom_pure _ _)
theorem RX_own {W1 : World} {Bn B id : Nat} {p : List Nat → Prop} (hB : Bn < W1.heap.size) (hX : W1.heap.size ≤ B) (c : Code) : OwnFrom B (RX W1 Bn id p c) :=
  own_or (ownFrom_pure _ _) (OwnFrom.and (ownFrom_pure _ (fun _ => c = .exit id)) (RI_own hB hX))
end Go.Proofs.YtgjeejdebneoaaaDoor
