/- MD: RowX, Rng, RngW, RngE, RngQ, RngS, MarksD: several texts in one. -/
import Derived.Test.YtlanfceilajifaaGreatDoorMA
import Derived.RangeFuncNested
import Derived.RangeFuncBound
import Derived.RangeFuncCalls
import Derived.RangeFuncLeaves
import Derived.Shelf.Abstract
import Derived.Shelf.RegionOpen
import Derived.WalkKit
import Derived.OwnWalkIn
import Derived.TacticsInMore
import Derived.LoopNIn
import Derived.LoopIn
import Derived.RangeFuncWrites
import Derived.Sort.QuietIn
import Derived.Sort.CutIn
import Derived.Defers
/- Plain words: rows of records of one width; what a call leaves alone. -/
namespace Go.Proofs.YtlanfceilajifaaGreatDoor
set_option linter.unusedVariables false
set_option linter.unusedSimpArgs false
open Go.RowKit
section
variable {α : Type} {f : α → List Value} {k : Nat}
theorem rows_len (hk : ∀ x, (f x).length = k) (l : List α) : (l.flatMap f).length = l.length * k := by
  induction l with
  | nil => simp
  | cons x l ih => rw [List.flatMap_cons, List.length_append, hk, ih, List.length_cons, Nat.add_mul]; omega
theorem rows_get (hk : ∀ x, (f x).length = k) (l : List α) : ∀ (i : Nat) (x : α) (j : Nat), l[i]? = some x → j < k → (l.flatMap f)[i * k + j]? = (f x)[j]? := by
  induction l with
  | nil => intro i x j h; simp at h
  | cons y l ih =>
    intro i x j h hj
    rw [List.flatMap_cons]
    cases i with
    | zero =>
      simp at h
      subst h
      rw [List.getElem?_append_left (by rw [hk]; omega)]
      simp
    | succ i =>
      simp at h
      rw [List.getElem?_append_right (by rw [hk, Nat.add_mul]; omega), hk, show (i + 1) * k + j - k = i * k + j by rw [Nat.add_mul]; omega]
      exact ih i x j h hj
theorem rows_one (h1 : ∀ x, ∀ u ∈ f x, u.oneCell' = true) (l : List α) : ∀ u ∈ l.flatMap f, u.oneCell' = true := by
  intro u hu
  obtain ⟨x, _, hx⟩ := List.mem_flatMap.1 hu
  exact h1 x u hx
/-- a record of a row that is read -/
theorem rows_at (hk : ∀ x, (f x).length = k) (hk0 : 0 < k) {w : World} {B : Nat} {A : Option Addr} {l : List α} (h : Rd w B A (l.flatMap f)) {i : Nat} {x : α} (hi : l[i]? = some x) :
    ∃ b off, A = some ⟨b, off, none⟩ ∧ b < B ∧ ∀ j u, (f x)[j]? = some u → w.cell? ⟨b, off + (i * k + j), none⟩ = some u := by
  have hlt : i < l.length := by
    rcases Nat.lt_or_ge i l.length with h | h
    · exact h
    · rw [List.getElem?_eq_none h] at hi; cases hi
  obtain ⟨b, off, e, hb, hc⟩ := h (by rw [rows_len hk]; have := Nat.mul_le_mul_right k hlt; rw [Nat.succ_mul] at this; omega)
  refine ⟨b, off, e, hb, fun j u hu => hc _ u ?_⟩
  have hj : j < k := by
    rcases Nat.lt_or_ge j k with h | h
    · exact h
    · rw [List.getElem?_eq_none (by rw [hk]; exact h)] at hu; cases hu
  rw [rows_get hk l i x j hi hj]
  exact hu
theorem rows_cut (hk : ∀ x, (f x).length = k) (l : List α) (a n : Nat) : ((l.flatMap f).drop (a * k)).take (n * k) = ((l.drop a).take n).flatMap f := by
  induction l generalizing a n with
  | nil => simp
  | cons x l ih =>
    cases a with
    | zero =>
      cases n with
      | zero => simp
      | succ n =>
        rw [List.drop_zero, List.take_succ_cons, List.flatMap_cons, List.flatMap_cons, Nat.zero_mul, List.drop_zero, Nat.add_mul, Nat.one_mul, Nat.add_comm, ← hk x, List.take_length_add_append]
        congr 1
        have := ih 0 n
        simpa [hk] using this
    | succ a =>
      rw [List.flatMap_cons, Nat.add_mul, Nat.one_mul, Nat.add_comm (a * k) k, ← hk x, List.drop_length_add_append, hk, List.drop_succ_cons]
      exact ih a n
end
/-- where the cells of a list lie: in a block that meets a condition -/
def In (p : Nat → Prop) (A : Option Addr) : Prop := ∀ a, A = some a → p a.block
theorem In.mono {p q : Nat → Prop} {A : Option Addr} (h : In p A) (hpq : ∀ b, p b → q b) : In q A := fun a e => hpq _ (h a e)
/-- what lies in the blocks of p lies as it lay -/
def Fr (p : Nat → Prop) (w w' : World) : Prop := w'.os = w.os ∧ w'.tape = w.tape ∧ w'.output = w.output ∧ w.heap.size ≤ w'.heap.size ∧ ∀ k, p k → k < w.heap.size → w'.heap[k]? = w.heap[k]?
section
variable {p q : Nat → Prop} {w w1 w2 : World}
theorem Fr.refl : Fr p w w := ⟨rfl, rfl, rfl, Nat.le_refl _, fun _ _ _ => rfl⟩
theorem Fr.trans (h : Fr p w w1) (k : Fr p w1 w2) : Fr p w w2 :=
  ⟨k.1.trans h.1, k.2.1.trans h.2.1, k.2.2.1.trans h.2.2.1, Nat.le_trans h.2.2.2.1 k.2.2.2.1, fun i hi hl => (k.2.2.2.2 i hi (Nat.lt_of_lt_of_le hl h.2.2.2.1)).trans (h.2.2.2.2 i hi hl)⟩
theorem Fr.mono (h : Fr p w w1) (hpq : ∀ b, b < w.heap.size → q b → p b) : Fr q w w1 := ⟨h.1, h.2.1, h.2.2.1, h.2.2.2.1, fun i hi hl => h.2.2.2.2 i (hpq i hl hi) hl⟩
theorem Fr.of_below (h : Below w.heap.size w w1) : Fr p w w1 := ⟨h.os, h.tape, h.output, h.size, fun i _ hl => h.block i hl⟩
theorem Fr.below (h : Fr p w w1) {B : Nat} (hB : B ≤ w.heap.size) (hp : ∀ b, b < B → p b) : Below B w w1 :=
  ⟨h.1, h.2.1, h.2.2.1, h.2.2.2.1, fun k hk => h.2.2.2.2 k (hp k hk) (by omega)⟩
theorem Fr.blk (h : Fr p w w1) {g : Nat} {t : TypeId} {cs : Array Value} (hb : Blk w g t cs) (hg : p g) : Blk w1 g t cs := (h.2.2.2.2 g hg hb.lt).trans hb
theorem Fr.cell (h : Fr p w w1) {a : Addr} {u : Value} (hc : w.cell? a = some u) (ha : p a.block) : w1.cell? a = some u :=
  (World.cell?_of_block (h.2.2.2.2 a.block ha (cell_lt hc))).trans hc
theorem Fr.rd (h : Fr p w w1) {B : Nat} {A : Option Addr} {xs : List Value} (hr : Rd w B A xs) (hA : In p A) : Rd w1 B A xs := fun h0 => by
  obtain ⟨b, off, e, hb, hc⟩ := hr h0
  exact ⟨b, off, e, hb, fun i u hu => h.cell (hc i u hu) (show p b from hA ⟨b, off, none⟩ e)⟩
theorem Fr.drewN (n : Nat) : Fr p w (w.drewN n) := ⟨rfl, rfl, rfl, Nat.le_refl _, fun _ _ _ => rfl⟩
theorem Fr.alloc (o : Obj) : Fr p w (w.alloc o) := Fr.of_below ((Below.refl _ _).alloc (Nat.le_refl _) o)
theorem Fr.set {a : Addr} (ha : ∀ b, p b → b ≠ a.block) (u : Value) : Fr p w (w.setCell a u) :=
  ⟨rfl, rfl, rfl, by simp [World.setCell], fun k hk _ => Below.heap_setCell w a u k (ha k hk)⟩
theorem Fr.grown {row : Option Nat} (h : w.grownBy w1 row) (hp : ∀ b, p b → row ≠ some b) : Fr p w w1 := ⟨h.os, h.tape, h.output, h.size, fun k hk hl => h.block k hl (fun e => hp k hk e.symm)⟩
end
theorem Rd.re {w : World} {B B' : Nat} {A : Option Addr} {xs : List Value} (h : Rd w B A xs) (hin : In (· < B') A) : Rd w B' A xs := fun h0 => by
  obtain ⟨b, off, e, _, hc⟩ := h h0
  exact ⟨b, off, e, hin _ e, hc⟩
theorem Rd.off {w : World} {B : Nat} {A : Option Addr} {xs : List Value} (h : Rd w B A xs) {g i : Nat} (hp : ∀ a, A = some a → g ≠ a.block) (u : Value) : Rd (w.setCell ⟨g, i, none⟩ u) B A xs := fun h0 => by
  obtain ⟨b, off, e, hb, hc⟩ := h h0
  exact ⟨b, off, e, hb, fun i v hv => (World.cell?_setCell_far w ⟨g, _, none⟩ ⟨b, off + i, none⟩ u (hp ⟨b, off, none⟩ e)).trans (hc i v hv)⟩
theorem own_row {w : World} {base : Nat} {e : TypeId} {size n : Nat} {v : Value} {xs : List Value} (h : w.ownsRow base e size v n xs) :
    ∃ A c, v = .slice A n c ∧ n ≤ c ∧ c ≤ maxLen ∧ Rd w w.heap.size A xs ∧ (∀ a, A = some a → base ≤ a.block) := by
  rcases h.2 with ⟨rfl, h0⟩ | ⟨g, cap, cur, rfl, hg, _, hc, hm, _⟩
  · have hx := h.1
    rw [h0] at hx
    obtain rfl : xs = [] := List.eq_nil_of_length_eq_zero (by omega)
    exact ⟨none, 0, by rw [h0], by omega, by simp [maxLen], Rd.nil, by simp⟩
  · exact ⟨_, _, rfl, hc, hm, Rd.of_own h, by simp; exact hg⟩
theorem own_base' {w : World} {base : Nat} {e : TypeId} {size n : Nat} {v : Value} {xs : List Value} (h : w.ownsRow base e size v n xs) : ∀ k, v.ownBlock = some k → base ≤ k := by
  intro k hk
  rcases h.2 with ⟨rfl, h0⟩ | ⟨g, cap, cur, rfl, hg, _⟩
  · simp [Value.ownBlock] at hk
  · simp [Value.ownBlock] at hk; omega
/-- what is owned is owned still, where its block lies as it lay -/
theorem own_keep {w w' : World} {base base' : Nat} {e : TypeId} {size n : Nat} {v : Value} {xs : List Value} (h : w.ownsRow base e size v n xs) (hB : base' ≤ base) (hk : ∀ k, v.ownBlock = some k → k < w.heap.size → w'.heap[k]? = w.heap[k]?) : w'.ownsRow base' e size v n xs :=
  ⟨h.1, by
    rcases h.2 with h0 | ⟨g, cap, cur, h1, h2, h3, h4⟩
    · exact .inl h0
    · refine .inr ⟨g, cap, cur, h1, Nat.le_trans hB h2, ?_, h4⟩
      have hg : g < w.heap.size := by
        rcases Nat.lt_or_ge g w.heap.size with h | h
        · exact h
        · rw [Array.getElem?_eq_none h] at h3; cases h3
      rw [hk g (by rw [h1]; rfl) hg]
      exact h3⟩
theorem own_lt {w : World} {base : Nat} {e : TypeId} {size n : Nat} {v : Value} {xs : List Value} (h : w.ownsRow base e size v n xs) : ∀ k, v.ownBlock = some k → k < w.heap.size := by
  intro k hk
  rcases h.2 with ⟨rfl, h0⟩ | ⟨g, cap, cur, rfl, hg, hh, _⟩
  · simp [Value.ownBlock] at hk
  · simp [Value.ownBlock] at hk
    subst hk
    rcases Nat.lt_or_ge g w.heap.size with h | h
    · exact h
    · rw [Array.getElem?_eq_none h] at hh; cases hh
theorem Fr.then_below {p : Nat → Prop} {w w1 w2 : World} {B : Nat} (h : Fr p w w1) (hb : Below B w1 w2) (hB : w.heap.size ≤ B) : Fr p w w2 :=
  ⟨hb.os.trans h.1, hb.tape.trans h.2.1, hb.output.trans h.2.2.1, Nat.le_trans h.2.2.2.1 hb.size, fun k hk hl => (hb.block k (by omega)).trans (h.2.2.2.2 k hk hl)⟩
theorem Blk.six {w : World} {g : Nat} {t : TypeId} {a0 a1 a2 a3 a4 a5 : Value} (h : Blk w g t #[a0, a1, a2, a3, a4, a5]) : w.cell? ⟨g, 0, none⟩ = some a0 ∧ w.cell? ⟨g, 1, none⟩ = some a1 ∧ w.cell? ⟨g, 2, none⟩ = some a2 ∧ w.cell? ⟨g, 3, none⟩ = some a3 ∧ w.cell? ⟨g, 4, none⟩ = some a4 ∧ w.cell? ⟨g, 5, none⟩ = some a5 :=
  ⟨h.cell 0, h.cell 1, h.cell 2, h.cell 3, h.cell 4, h.cell 5⟩
theorem Blk.ice6 {w : World} {g : Nat} {t : TypeId} {cs : Array Value} (h : Blk w g t cs) : w.frozen? ⟨g, 0, none⟩ = false ∧ w.frozen? ⟨g, 1, none⟩ = false ∧ w.frozen? ⟨g, 2, none⟩ = false ∧ w.frozen? ⟨g, 3, none⟩ = false ∧ w.frozen? ⟨g, 4, none⟩ = false ∧ w.frozen? ⟨g, 5, none⟩ = false :=
  ⟨h.frozen 0, h.frozen 1, h.frozen 2, h.frozen 3, h.frozen 4, h.frozen 5⟩
theorem Blk.three {w : World} {g : Nat} {t : TypeId} {a0 a1 a2 : Value} (h : Blk w g t #[a0, a1, a2]) : w.cell? ⟨g, 0, none⟩ = some a0 ∧ w.cell? ⟨g, 1, none⟩ = some a1 ∧ w.cell? ⟨g, 2, none⟩ = some a2 := ⟨h.cell 0, h.cell 1, h.cell 2⟩
theorem Blk.ice3 {w : World} {g : Nat} {t : TypeId} {cs : Array Value} (h : Blk w g t cs) : w.frozen? ⟨g, 0, none⟩ = false ∧ w.frozen? ⟨g, 1, none⟩ = false ∧ w.frozen? ⟨g, 2, none⟩ = false := ⟨h.frozen 0, h.frozen 1, h.frozen 2⟩
theorem Fr.put {w w1 : World} {g : Nat} (h : Fr (fun k => k ≠ g) w w1) (i : Nat) (u : Value) : Fr (fun k => k ≠ g) w (w1.setCell ⟨g, i, none⟩ u) := h.trans (Fr.set (a := ⟨g, i, none⟩) (fun _ h => h) u)
/-- cells of a list stand from an address on, in a block that meets a condition -/
def RdP (w : World) (p : Nat → Prop) (A : Option Addr) (xs : List Value) : Prop :=
  0 < xs.length → ∃ b off, A = some ⟨b, off, none⟩ ∧ p b ∧ ∀ i u, xs[i]? = some u → w.cell? ⟨b, off + i, none⟩ = some u
theorem RdP.rd {w : World} {p : Nat → Prop} {A : Option Addr} {xs : List Value} (h : RdP w p A xs) : Rd w w.heap.size A xs := fun h0 => by
  obtain ⟨b, off, e, _, hc⟩ := h h0
  obtain ⟨u, hu⟩ : ∃ u, xs[0]? = some u := ⟨xs[0], List.getElem?_eq_getElem h0⟩
  exact ⟨b, off, e, cell_lt (hc 0 u hu), hc⟩
theorem RdP.fr {w w' : World} {p q r : Nat → Prop} {A : Option Addr} {xs : List Value} (h : RdP w p A xs) (hf : Fr r w w') (h1 : ∀ b, p b → b < w.heap.size → r b) (h2 : ∀ b, p b → b < w.heap.size → q b) : RdP w' q A xs := fun h0 => by
  obtain ⟨b, off, e, hp, hc⟩ := h h0
  obtain ⟨u, hu⟩ : ∃ u, xs[0]? = some u := ⟨xs[0], List.getElem?_eq_getElem h0⟩
  have hl := cell_lt (hc 0 u hu)
  exact ⟨b, off, e, h2 b hp hl, fun i v hv => hf.cell (hc i v hv) (h1 b hp hl)⟩
theorem Rd.to {w : World} {B : Nat} {p : Nat → Prop} {A : Option Addr} {xs : List Value} (h : Rd w B A xs) (hp : ∀ a, A = some a → a.block < w.heap.size → p a.block) : RdP w p A xs := fun h0 => by
  obtain ⟨b, off, e, _, hc⟩ := h h0
  obtain ⟨u, hu⟩ : ∃ u, xs[0]? = some u := ⟨xs[0], List.getElem?_eq_getElem h0⟩
  exact ⟨b, off, e, hp _ e (cell_lt (hc 0 u hu)), hc⟩
theorem Fr.frozen {p : Nat → Prop} {w w1 : World} (h : Fr p w w1) {a : Addr} (hl : a.block < w.heap.size) (ha : p a.block) : w1.frozen? a = w.frozen? a := by
  unfold World.frozen?
  rw [h.2.2.2.2 a.block ha hl]
end Go.Proofs.YtlanfceilajifaaGreatDoor
/- Plain words for ranges over a function: what a call that only makes memory keeps; boxes. -/
namespace Go.Proofs.YtlanfceilajifaaGreatDoor
set_option linter.unusedVariables false
set_option linter.unusedSimpArgs false
open Go.RowKit Go.Shelf

/-- a scope whose labels nobody jumps to, inside the wide fence -/
theorem scope_in {n : Nat} {P : Program} {Q : Exit → Act → World → Prop} {a : Act} {w : World} {c : Code} (h : c.wpIn Fence.wide n P (Exit.noGoto Q) a w) : (Code.scope c).wpIn Fence.wide n P Q a w :=
  wpIn_wide.2 (wp_scope_straight (wpIn_wide.1 h))
theorem keeps_below {B : Nat} {W W' : World} (h : Below W.heap.size W W') : KeepsFrom B W W' :=
  ⟨h.size, fun k o _ hk _ => (h.block k (Array.getElem?_eq_some_iff.1 hk).1).trans hk⟩
theorem below_none {W W' : World} (h : Below W.heap.size W W') : W.grownBy W' none := ⟨h.os, h.tape, h.output, h.size, fun k hk _ => h.block k hk⟩
theorem blk_own {β : Type} (B : Nat) (t : TypeId) (f : β → Array Value) : Own (fun s W => Blk W B t (f s)) := fun s X Y row hs hg hrow =>
  (hg.block B (Blk.lt hs) (fun e' => by obtain ⟨o, ho, hc⟩ := hrow B e'.symm; rw [show X.heap[B]? = _ from hs] at ho; cases ho; cases hc)).trans hs
theorem own_or {β : Type} {B : Nat} {I I' : β → World → Prop} (h : OwnFrom B I) (h' : OwnFrom B I') : OwnFrom B (fun s W => I s W ∨ I' s W) := fun s W W' row hs hg hr => hs.elim (fun a => .inl (h s W W' row a hg hr)) (fun a => .inr (h' s W W' row a hg hr))
/-- a row that is owned is a slice of so many -/
theorem own_shape {w : World} {base e n : Nat} {v : Value} {xs : List Value} (h : w.ownsRow base e 1 v n xs) : ∃ A c, v = .slice A n c ∧ n ≤ c ∧ c ≤ maxLen ∧ Rd w w.heap.size A xs := by
  rcases h.2 with ⟨rfl, h0⟩ | ⟨g, cap, cur, rfl, hg, _, hc, hm, _⟩
  · have := h.1
    subst h0
    simp at this
    subst this
    exact ⟨none, 0, rfl, by simp, by simp [maxLen], Rd.nil⟩
  · exact ⟨_, _, rfl, hc, hm, Rd.of_own h⟩
theorem own_base {w : World} {base e n size : Nat} {v : Value} {xs : List Value} (h : w.ownsRow base e size v n xs) : ∀ k, v.ownBlock = some k → base ≤ k := by
  intro k hk
  rcases h.2 with ⟨rfl, h0⟩ | ⟨g, cap, cur, rfl, hg, _⟩
  · simp [Value.ownBlock] at hk
  · simp [Value.ownBlock] at hk; omega
theorem own_shapeN {w : World} {base e n size : Nat} {v : Value} {xs : List Value} (h : w.ownsRow base e size v n xs) : ∃ A c, v = .slice A n c ∧ n ≤ c ∧ c ≤ maxLen ∧ Rd w w.heap.size A xs := by
  rcases h.2 with ⟨rfl, h0⟩ | ⟨g, cap, cur, rfl, hg, _, hc, hm, _⟩
  · subst h0
    have := h.1
    exact ⟨none, 0, rfl, by simp, by simp [maxLen], fun h0 => by simp [this] at h0⟩
  · exact ⟨_, _, rfl, hc, hm, Rd.of_own h⟩
theorem Boxed.blk {W : World} {B : Nat} {t : TypeId} {v : Value} (h : Boxed W B t v) : Blk W B t #[v] := h
theorem boxed_below {W W' : World} {n B : Nat} {t : TypeId} {v : Value} (h : Boxed W B t v) (hb : Below n W W') (hB : B < n) : Boxed W' B t v := (hb.block B hB).trans h
theorem range_snoc {pre : List Nat} (h : pre = List.range pre.length) : pre ++ [pre.length] = List.range (pre ++ [pre.length]).length := by
  rw [List.length_append, List.length_singleton, List.range_succ, ← h]
theorem range_last {pre : List Nat} {x : Nat} (h : pre ++ [x] = List.range (pre ++ [x]).length) : x = pre.length ∧ pre = List.range pre.length := by
  rw [List.length_append, List.length_singleton, List.range_succ] at h
  obtain ⟨h1, h2⟩ := List.append_inj' h rfl
  exact ⟨by simpa using h2, h1⟩
/-- a loop variable that lies in a block of its own -/
def AxB (Bn : Nat) (t : TypeId) (vals : Nat → Array Value) (mk : Nat → Nat → Act) (x : Nat) (a' : Act) (W : World) : Prop := ∃ Bx, Bn < Bx ∧ Blk W Bx t (vals x) ∧ a' = mk x Bx
theorem AxB_own {B Bn : Nat} {t : TypeId} {vals : Nat → Array Value} {mk : Nat → Nat → Act} (x : Nat) (a' : Act) : OwnFrom B (fun (_ : Unit) W => AxB Bn t vals mk x a' W) := fun u X Y row hs hg hr => by
  obtain ⟨Bx, k1, k2, k3⟩ := hs
  exact ⟨Bx, k1, blk_own Bx t (fun (_ : Unit) => vals x) () X Y row k2 hg (fun r e => (hr r e).2), k3⟩
theorem len_snoc {α : Type} (pre : List α) (x : α) : (pre ++ [x]).length = pre.length + 1 := by simp
/-- between two rounds of a loop that counts: what came is counted in a box; what lay below the box lies as it lay -/
def RI (W1 : World) (Bn : Nat) (p : List Nat → Prop) (pre : List Nat) (W : World) : Prop := (Boxed W Bn 3 (.int .i64 pre.length) ∧ Below Bn W1 W) ∧ p pre
/-- a round has left: by a return, which it does not; by a break -/
def RX (W1 : World) (Bn : Nat) (id : Nat) (p : List Nat → Prop) (c : Code) (pre : List Nat) (W : World) : Prop := (c = .ret ∧ pre ≠ List.range pre.length) ∨ (c = .exit id ∧ RI W1 Bn p pre W)
theorem RI_own {W1 : World} {Bn B : Nat} {p : List Nat → Prop} (hB : Bn < W1.heap.size) (hX : W1.heap.size ≤ B) : OwnFrom B (RI W1 Bn p) :=
  OwnFrom.and (OwnFrom.and (Own.from (boxed_own Bn 3 (fun pre : List Nat => .int .i64 pre.length)) _) (ownFrom_below (by omega) (by omega))) (ownFrom_pure _ _)
theorem RX_own {W1 : World} {Bn B id : Nat} {p : List Nat → Prop} (hB : Bn < W1.heap.size) (hX : W1.heap.size ≤ B) (c : Code) : OwnFrom B (RX W1 Bn id p c) :=
  own_or (ownFrom_pure _ _) (OwnFrom.and (ownFrom_pure _ (fun _ => c = .exit id)) (RI_own hB hX))
end Go.Proofs.YtlanfceilajifaaGreatDoor
/- A range over a function that writes memory of its own between two rounds: the caller's invariant is kept by whatever leaves the blocks alone that lay when the loop began. -/
namespace Go.Proofs.YtlanfceilajifaaGreatDoor
set_option linter.unusedVariables false
set_option linter.unusedSimpArgs false
open Go.RowKit Go.Shelf
/-- what holds is kept by changes from a block on -/
def Stable {β : Type} (B : Nat) (J : β → World → Prop) : Prop := ∀ s W W', J s W → Below B W W' → J s W'
/-- an iterator's contract, where it may write blocks that it made itself -/
def SeqStopsW {α : Type} (F : Fence) (n : Nat) (P : Program) (g : Nat) (lb : Array Value) (encs : α → Array Value) (Kp : World → World → Prop) (S Sp : List α → Prop) (N : Nat) (w : World) (hi : Nat) : Prop :=
  ∀ (l : Nat) (J Jx : List α → World → Prop) (W : World), Below w.heap.size w W → hi ≤ W.heap.size → Stable W.heap.size J → Stable W.heap.size Jx →
    (∀ pre x W1, J pre W1 → pre.length < N → YieldAt F (n - 1) P l (encs x) W1 fun e W' =>
      (e = .returned (.bool true) ∧ J (pre ++ [x]) W' ∧ Kp W1 W') ∨ (e = .returned (.bool false) ∧ Jx (pre ++ [x]) W')) →
    J [] W →
    CallsIn F n P g (#[.func (.yield l) #[] #[]] ++ lb) W fun e W' => (∃ v, e = .returned v) ∧ ((∃ xs, S xs ∧ J xs W') ∨ (∃ pre, Sp pre ∧ Jx pre W'))
theorem below_putObj (W : World) (l : Nat) (o : Obj) {B : Nat} (h : B ≤ l) : Below B W (W.putObj l o) := by
  have hg := grownBy_putObj' W l o
  exact ⟨hg.os, hg.tape, hg.output, hg.size, fun k hk => by
    rcases Nat.lt_or_ge k W.heap.size with h' | h'
    · exact hg.block k h' (fun e => by injection e with e; omega)
    · exact World.putObj_heap_other (by omega)⟩
section
variable {α : Type} {F : Fence} {n : Nat} {P : Program}
theorem range_own {g : Operand} {ps : Array Tmp} {assign body : Code} {Q : Exit → Act → World → Prop} {a : Act} {w : World}
    (hro : F.round = none) (h1 : 1 ≤ n) {gf : Nat} {lb : Array Value} (hg : a.eval g = .func (.func gf) #[] lb) (hFg : F.fn gf) (eg : ∀ args w, (callFunc gf args).run P w = .ok (.enter gf args) w)
    {encs : α → Array Value} {Kp : World → World → Prop} {S Sp : List α → Prop} {N : Nat} {w0 : World} (hseq : SeqStopsW F (n - 1) P gf lb encs Kp S Sp N w0 (w.heap.size + 2))
    (hKt : ∀ {A B C : World}, Kp A B → Kp B C → Kp A C) (hKb : ∀ (W : World) (o : Obj), w.heap.size + 1 < W.heap.size → Kp W (W.putObj (w.heap.size + 1) o)) (hb0 : Below w0.heap.size w0 w) (hps : ∀ x, (encs x).size = ps.size)
    (I : List α → World → Prop) (Ix : Code → List α → World → Prop) (hI : Stable w.heap.size I) (hIx : ∀ c, Stable w.heap.size (Ix c)) (h0 : I [] w) (a₁ : α → Act)
    (hassign : ∀ (l : Nat) (x : α) (W : World) (K : Act → World → Prop), K (a₁ x) W →
      assign.wpIn (F.inRound l) (n - 1 - 1) P (Exit.then K (fun _ _ _ => False)) { tmps := (ps.zip (encs x)).foldl (fun t (p, v) => t.setIfInBounds p v) a.tmps, defers := [] } W)
    (hbody : ∀ (l : Nat) (pre : List α) (x : α) (W : World), I pre W → pre.length < N → body.wpIn (F.inRound l) (n - 1 - 1) P (ownPostG w.heap.size Kp I Ix (pre ++ [x]) W) (a₁ x) W)
    (hdone : ∀ (D : Nat) (xs : List α) (W : World), w.heap.size ≤ D → S xs → I xs W → W.heap[D]? = some (.deferred (some [])) → Q .normal { a with defers := { target := .collected D, args := #[] } :: a.defers } W)
    (hstop : ∀ (D : Nat) (c : Code) (pre : List α) (W : World), w.heap.size ≤ D → Sp pre → Ix c pre W → W.heap[D]? = some (.deferred (some [])) → c.wpIn F n P Q { a with defers := { target := .collected D, args := #[] } :: a.defers } W) :
    (Code.rangeFunc g ps assign body).wpIn F n P Q a w := by
  refine wpIn_rangeFunc fun fn hfn => ?_
  rw [hro]
  -- the loop's own object, and the one that collects what is deferred
  let lp : LoopState → Option Code → Obj := fun st pe => .loop { state := st, pending := pe, fn, tmps := a.tmps, params := ps, assign, body, defers := w.heap.size }
  let L := w.heap.size + 1
  obtain ⟨V, hV⟩ : ∃ V, (w.alloc (.deferred (some []))).alloc (lp .ready none) = V := ⟨_, rfl⟩
  have bV : Below w.heap.size w V := by rw [← hV]; exact balloc (balloc (Below.refl _ _) _) _
  have sV : V.heap.size = w.heap.size + 2 := by rw [← hV]; simp
  have cL : V.heap[L]? = some (lp .ready none) := by
    rw [← hV]; have := World.alloc_heap_new (w.alloc (.deferred (some []))) (lp .ready none); rwa [World.size_alloc] at this
  have cD : V.heap[w.heap.size]? = some (.deferred (some [])) := by
    rw [← hV]; exact (Below.heap_alloc _ _ _ (by simp)).trans (World.alloc_heap_new w _)
  -- what goes along with the caller's invariant
  let J : List α → World → Prop := fun pre W => I pre W ∧ W.heap[L]? = some (lp .ready none) ∧ W.heap[w.heap.size]? = some (.deferred (some []))
  let Jx : List α → World → Prop := fun pre W => ∃ c, Ix c pre W ∧ W.heap[L]? = some (lp .done (some c)) ∧ W.heap[w.heap.size]? = some (.deferred (some []))
  have stJ : Stable V.heap.size J := fun s X Y hs hb => ⟨hI s X Y hs.1 (hb.mono (by omega)), (hb.block _ (by show w.heap.size + 1 < _; omega)).trans hs.2.1, (hb.block _ (by omega)).trans hs.2.2⟩
  have stX : Stable V.heap.size Jx := fun s X Y hs hb => by
    obtain ⟨c, q1, q2, q3⟩ := hs
    exact ⟨c, hIx c s X Y q1 (hb.mono (by omega)), (hb.block _ (by show w.heap.size + 1 < _; omega)).trans q2, (hb.block _ (by omega)).trans q3⟩
  refine ⟨L, [{ target := .collected w.heap.size, args := #[] }], V, { target := .fn (.func gf) lb, args := #[.func (.yield L) #[] #[]] }, V, gf, #[.func (.yield L) #[] #[]] ++ lb, V, ?_, ?_, ?_, ?_, fun _ => h1, ?_⟩
  · rw [← hV]; exact run_enterLoop_outer _ _ _ _ _
  · simp only [resolve, hg]
    simp [go_sem, L]
  · intro f' hf'; simp [Target.leads] at hf'; subst hf'; exact hFg
  · simp [invoke, go_sem, eg]
  refine (hseq L J Jx V (hb0.trans (bV.mono hb0.size)) (by omega) stJ stX ?_ ⟨hI _ _ _ h0 bV, cL, cD⟩).mono ?_
  · rintro pre x W ⟨hi, hl, hk⟩ hlen
    have hlt : L < W.heap.size := (Array.getElem?_eq_some_iff.1 hl).1
    refine ⟨fn, _, assign, body, run_yield (P := P) (args := encs x) hl (hps x), roundIn_of_wpIn hfn (hassign _ x W _ ⟨_, run_beginRound hl rfl, ?_⟩)⟩
    obtain ⟨X, hX⟩ : ∃ X, W.putObj L (lp .busy none) = X := ⟨_, rfl⟩
    have bX : Below w.heap.size W X := by rw [← hX]; exact below_putObj _ _ _ (by show w.heap.size ≤ w.heap.size + 1; omega)
    have lX : X.heap[L]? = some (lp .busy none) := by rw [← hX]; exact World.putObj_heap_same hlt
    have kX : X.heap[w.heap.size]? = some (.deferred (some [])) := by rw [← hX]; exact (World.putObj_heap_other (by show w.heap.size ≠ w.heap.size + 1; omega)).trans hk
    have pX : Kp W X := by rw [← hX]; exact hKb _ _ hlt
    have iX : I pre X := hI _ _ _ hi bX
    show body.wpIn _ _ _ _ _ (W.putObj L (lp .busy none))
    rw [hX]
    refine wpIn_mono (hbody L pre x X iX hlen) ?_
    have fin : ∀ (jump : Option Code) (Y : World), KeepsFrom w.heap.size X Y → L < Y.heap.size ∧ (Instr.endRound L jump).run P Y = .ok (.bool jump.isNone) (Y.putObj L (lp (if jump.isNone then .ready else .done) jump)) ∧
        (Y.putObj L (lp (if jump.isNone then .ready else .done) jump)).heap[L]? = some (lp (if jump.isNone then .ready else .done) jump) ∧ (Y.putObj L (lp (if jump.isNone then .ready else .done) jump)).heap[w.heap.size]? = some (.deferred (some [])) := fun jump Y hY => by
      have l3 := hY.same L _ (by show w.heap.size ≤ w.heap.size + 1; omega) lX rfl
      have k3 := hY.same w.heap.size _ (Nat.le_refl _) kX rfl
      have s3 : L < Y.heap.size := (Array.getElem?_eq_some_iff.1 l3).1
      exact ⟨s3, run_endRound (P := P) jump l3, World.putObj_heap_same s3, (World.putObj_heap_other (by show w.heap.size ≠ w.heap.size + 1; omega)).trans k3⟩
    have bY : ∀ (Y : World) (o : Obj), Below w.heap.size Y (Y.putObj L o) := fun Y o => below_putObj _ _ _ (by show w.heap.size ≤ w.heap.size + 1; omega)
    rintro e a3 Y hp
    cases e with
    | normal =>
      obtain ⟨q1, q2, q3⟩ := hp
      obtain ⟨f0, f1, f2, f3⟩ := fin none Y q1
      exact ⟨_, _, f1, .inl ⟨rfl, ⟨hI _ _ _ q3 (bY _ _), f2, f3⟩, hKt (hKt pX q2) (hKb _ _ f0)⟩⟩
    | ret =>
      obtain ⟨q1, q2⟩ := hp
      obtain ⟨f0, f1, f2, f3⟩ := fin (some .ret) Y q1
      exact ⟨_, _, f1, .inr ⟨rfl, .ret, hIx _ _ _ _ q2 (bY _ _), f2, f3⟩⟩
    | exit id =>
      obtain ⟨q1, q2⟩ := hp
      obtain ⟨f0, f1, f2, f3⟩ := fin (some (.exit id)) Y q1
      exact ⟨_, _, f1, .inr ⟨rfl, .exit id, hIx _ _ _ _ q2 (bY _ _), f2, f3⟩⟩
    | goto t =>
      obtain ⟨q1, q2⟩ := hp
      obtain ⟨f0, f1, f2, f3⟩ := fin (some (.goto t)) Y q1
      exact ⟨_, _, f1, .inr ⟨rfl, .goto t, hIx _ _ _ _ q2 (bY _ _), f2, f3⟩⟩
    | panic ch => exact hp.elim
    | outgrown => exact hp.elim
  · rintro e Y ⟨⟨v, rfl⟩, (⟨xs, hS, q1, q2, q3⟩ | ⟨pre, hSp, c, q1, q2, q3⟩)⟩
    · exact ⟨none, _, run_endLoop (P := P) q2 (by simp), hdone _ xs _ (Nat.le_refl _) hS (hI _ _ _ q1 (below_putObj _ _ _ (by show w.heap.size ≤ w.heap.size + 1; omega))) ((World.putObj_heap_other (by show w.heap.size ≠ w.heap.size + 1; omega)).trans q3)⟩
    · exact ⟨some c, _, run_endLoop (P := P) q2 (by simp), hstop _ c pre _ (Nat.le_refl _) hSp (hIx c _ _ _ q1 (below_putObj _ _ _ (by show w.heap.size ≤ w.heap.size + 1; omega))) ((World.putObj_heap_other (by show w.heap.size ≠ w.heap.size + 1; omega)).trans q3)⟩
end
end Go.Proofs.YtlanfceilajifaaGreatDoor
/- A range over a function whose elements name memory that the iterator has just made, and whose loop variable may lie in a box: E says in which worlds an element is good. -/
namespace Go.Proofs.YtlanfceilajifaaGreatDoor
set_option linter.unusedVariables false
set_option linter.unusedSimpArgs false
open Go.RowKit Go.Shelf
/-- an iterator's contract: what it hands on is good where it is handed on -/
def SeqStopsE {α : Type} (F : Fence) (n : Nat) (P : Program) (g : Nat) (lb : Array Value) (encs : α → Array Value) (E : List α → α → World → Prop) (Kp : World → World → Prop) (S Sp : List α → Prop) (N : Nat) (w : World) (hi : Nat) : Prop :=
  ∀ (l : Nat) (J Jx : List α → World → Prop) (W : World), Below w.heap.size w W → hi ≤ W.heap.size → Stable W.heap.size J → Stable W.heap.size Jx →
    (∀ pre x W1, J pre W1 → E pre x W1 → W.heap.size ≤ W1.heap.size → pre.length < N → YieldAt F (n - 1) P l (encs x) W1 fun e W' =>
      (e = .returned (.bool true) ∧ J (pre ++ [x]) W' ∧ Kp W1 W') ∨ (e = .returned (.bool false) ∧ Jx (pre ++ [x]) W')) →
    J [] W →
    CallsIn F n P g (#[.func (.yield l) #[] #[]] ++ lb) W fun e W' => (∃ v, e = .returned v) ∧ ((∃ xs, S xs ∧ J xs W') ∨ (∃ pre, Sp pre ∧ Jx pre W'))
section
variable {α : Type} {F : Fence} {n : Nat} {P : Program}
theorem range_ownE {g : Operand} {ps : Array Tmp} {assign body : Code} {Q : Exit → Act → World → Prop} {a : Act} {w : World}
    (hro : F.round = none) (h1 : 1 ≤ n) {gf : Nat} {lb : Array Value} (hg : a.eval g = .func (.func gf) #[] lb) (hFg : F.fn gf) (eg : ∀ args w, (callFunc gf args).run P w = .ok (.enter gf args) w)
    {encs : α → Array Value} {E : List α → α → World → Prop} {Kp : World → World → Prop} {S Sp : List α → Prop} {N : Nat} {w0 : World} (hseq : SeqStopsE F (n - 1) P gf lb encs E Kp S Sp N w0 (w.heap.size + 2))
    (hKt : ∀ {A B C : World}, Kp A B → Kp B C → Kp A C) (hKb : ∀ (W : World) (o : Obj), w.heap.size + 1 < W.heap.size → Kp W (W.putObj (w.heap.size + 1) o)) (hb0 : Below w0.heap.size w0 w) (hps : ∀ x, (encs x).size = ps.size)
    (I : List α → World → Prop) (Ix : Code → List α → World → Prop) (hI : Stable w.heap.size I) (hIx : ∀ c, Stable w.heap.size (Ix c)) (h0 : I [] w) (hKa : ∀ (W W' : World), w.heap.size ≤ W.heap.size → Below W.heap.size W W' → Kp W W')
    (Ax : List α → α → Act → World → Prop) (hAx : ∀ pre x a' (W W' : World), Ax pre x a' W → (∃ r, W.heap[w.heap.size + 1]? = some (.loop r)) → (∀ k, k ≠ w.heap.size + 1 → W'.heap[k]? = W.heap[k]?) → Ax pre x a' W')
    (hassign : ∀ (l : Nat) (pre : List α) (x : α) (W : World) (K : Act → World → Prop), I pre W → E pre x W → w.heap.size ≤ W.heap.size → (∀ a' W', Below W.heap.size W W' → Ax pre x a' W' → K a' W') →
      assign.wpIn (F.inRound l) (n - 1 - 1) P (Exit.then K (fun _ _ _ => False)) { tmps := (ps.zip (encs x)).foldl (fun t (p, v) => t.setIfInBounds p v) a.tmps, defers := [] } W)
    (hbody : ∀ (l : Nat) (pre : List α) (x : α) (a' : Act) (W : World), I pre W → Ax pre x a' W → pre.length < N → body.wpIn (F.inRound l) (n - 1 - 1) P (ownPostG w.heap.size Kp I Ix (pre ++ [x]) W) a' W)
    (hdone : ∀ (D : Nat) (xs : List α) (W : World), w.heap.size ≤ D → S xs → I xs W → W.heap[D]? = some (.deferred (some [])) → Q .normal { a with defers := { target := .collected D, args := #[] } :: a.defers } W)
    (hstop : ∀ (D : Nat) (c : Code) (pre : List α) (W : World), w.heap.size ≤ D → Sp pre → Ix c pre W → W.heap[D]? = some (.deferred (some [])) → c.wpIn F n P Q { a with defers := { target := .collected D, args := #[] } :: a.defers } W) :
    (Code.rangeFunc g ps assign body).wpIn F n P Q a w := by
  refine wpIn_rangeFunc fun fn hfn => ?_
  rw [hro]
  -- the loop's own object, and the one that collects what is deferred
  let lp : LoopState → Option Code → Obj := fun st pe => .loop { state := st, pending := pe, fn, tmps := a.tmps, params := ps, assign, body, defers := w.heap.size }
  let L := w.heap.size + 1
  obtain ⟨V, hV⟩ : ∃ V, (w.alloc (.deferred (some []))).alloc (lp .ready none) = V := ⟨_, rfl⟩
  have bV : Below w.heap.size w V := by rw [← hV]; exact balloc (balloc (Below.refl _ _) _) _
  have sV : V.heap.size = w.heap.size + 2 := by rw [← hV]; simp
  have cL : V.heap[L]? = some (lp .ready none) := by
    rw [← hV]; have := World.alloc_heap_new (w.alloc (.deferred (some []))) (lp .ready none); rwa [World.size_alloc] at this
  have cD : V.heap[w.heap.size]? = some (.deferred (some [])) := by
    rw [← hV]; exact (Below.heap_alloc _ _ _ (by simp)).trans (World.alloc_heap_new w _)
  -- what goes along with the caller's invariant
  let J : List α → World → Prop := fun pre W => I pre W ∧ W.heap[L]? = some (lp .ready none) ∧ W.heap[w.heap.size]? = some (.deferred (some []))
  let Jx : List α → World → Prop := fun pre W => ∃ c, Ix c pre W ∧ W.heap[L]? = some (lp .done (some c)) ∧ W.heap[w.heap.size]? = some (.deferred (some []))
  have stJ : Stable V.heap.size J := fun s X Y hs hb => ⟨hI s X Y hs.1 (hb.mono (by omega)), (hb.block _ (by show w.heap.size + 1 < _; omega)).trans hs.2.1, (hb.block _ (by omega)).trans hs.2.2⟩
  have stX : Stable V.heap.size Jx := fun s X Y hs hb => by
    obtain ⟨c, q1, q2, q3⟩ := hs
    exact ⟨c, hIx c s X Y q1 (hb.mono (by omega)), (hb.block _ (by show w.heap.size + 1 < _; omega)).trans q2, (hb.block _ (by omega)).trans q3⟩
  refine ⟨L, [{ target := .collected w.heap.size, args := #[] }], V, { target := .fn (.func gf) lb, args := #[.func (.yield L) #[] #[]] }, V, gf, #[.func (.yield L) #[] #[]] ++ lb, V, ?_, ?_, ?_, ?_, fun _ => h1, ?_⟩
  · rw [← hV]; exact run_enterLoop_outer _ _ _ _ _
  · simp only [resolve, hg]
    simp [go_sem, L]
  · intro f' hf'; simp [Target.leads] at hf'; subst hf'; exact hFg
  · simp [invoke, go_sem, eg]
  refine (hseq L J Jx V (hb0.trans (bV.mono hb0.size)) (by omega) stJ stX ?_ ⟨hI _ _ _ h0 bV, cL, cD⟩).mono ?_
  · rintro pre x W0 ⟨hi0, hl0, hk0⟩ hE hsz hlen
    have hlt0 : L < W0.heap.size := (Array.getElem?_eq_some_iff.1 hl0).1
    refine ⟨fn, _, assign, body, run_yield (P := P) (args := encs x) hl0 (hps x), roundIn_of_wpIn hfn (hassign _ pre x W0 _ hi0 hE (by omega) (fun a' W hbW hax => ?_))⟩
    have hi : I pre W := hI _ _ _ hi0 (hbW.mono (by omega))
    have hl : W.heap[L]? = some (lp .ready none) := (hbW.block _ hlt0).trans hl0
    have hk : W.heap[w.heap.size]? = some (.deferred (some [])) := (hbW.block _ (by omega)).trans hk0
    have hlt : L < W.heap.size := (Array.getElem?_eq_some_iff.1 hl).1
    have kW : Kp W0 W := hKa _ _ (by omega) hbW
    refine ⟨_, run_beginRound hl rfl, ?_⟩
    obtain ⟨X, hX⟩ : ∃ X, W.putObj L (lp .busy none) = X := ⟨_, rfl⟩
    have bX : Below w.heap.size W X := by rw [← hX]; exact below_putObj _ _ _ (by show w.heap.size ≤ w.heap.size + 1; omega)
    have lX : X.heap[L]? = some (lp .busy none) := by rw [← hX]; exact World.putObj_heap_same hlt
    have kX : X.heap[w.heap.size]? = some (.deferred (some [])) := by rw [← hX]; exact (World.putObj_heap_other (by show w.heap.size ≠ w.heap.size + 1; omega)).trans hk
    have pX : Kp W0 X := hKt kW (by rw [← hX]; exact hKb _ _ hlt)
    have iX : I pre X := hI _ _ _ hi bX
    have aX : Ax pre x a' X := hAx pre x a' W X hax ⟨_, hl⟩ (fun k hk => by rw [← hX]; exact World.putObj_heap_other hk)
    show body.wpIn _ _ _ _ _ (W.putObj L (lp .busy none))
    rw [hX]
    refine wpIn_mono (hbody L pre x a' X iX aX hlen) ?_
    have fin : ∀ (jump : Option Code) (Y : World), KeepsFrom w.heap.size X Y → L < Y.heap.size ∧ (Instr.endRound L jump).run P Y = .ok (.bool jump.isNone) (Y.putObj L (lp (if jump.isNone then .ready else .done) jump)) ∧
        (Y.putObj L (lp (if jump.isNone then .ready else .done) jump)).heap[L]? = some (lp (if jump.isNone then .ready else .done) jump) ∧ (Y.putObj L (lp (if jump.isNone then .ready else .done) jump)).heap[w.heap.size]? = some (.deferred (some [])) := fun jump Y hY => by
      have l3 := hY.same L _ (by show w.heap.size ≤ w.heap.size + 1; omega) lX rfl
      have k3 := hY.same w.heap.size _ (Nat.le_refl _) kX rfl
      have s3 : L < Y.heap.size := (Array.getElem?_eq_some_iff.1 l3).1
      exact ⟨s3, run_endRound (P := P) jump l3, World.putObj_heap_same s3, (World.putObj_heap_other (by show w.heap.size ≠ w.heap.size + 1; omega)).trans k3⟩
    have bY : ∀ (Y : World) (o : Obj), Below w.heap.size Y (Y.putObj L o) := fun Y o => below_putObj _ _ _ (by show w.heap.size ≤ w.heap.size + 1; omega)
    rintro e a3 Y hp
    cases e with
    | normal =>
      obtain ⟨q1, q2, q3⟩ := hp
      obtain ⟨f0, f1, f2, f3⟩ := fin none Y q1
      exact ⟨_, _, f1, .inl ⟨rfl, ⟨hI _ _ _ q3 (bY _ _), f2, f3⟩, hKt (hKt pX q2) (hKb _ _ f0)⟩⟩
    | ret =>
      obtain ⟨q1, q2⟩ := hp
      obtain ⟨f0, f1, f2, f3⟩ := fin (some .ret) Y q1
      exact ⟨_, _, f1, .inr ⟨rfl, .ret, hIx _ _ _ _ q2 (bY _ _), f2, f3⟩⟩
    | exit id =>
      obtain ⟨q1, q2⟩ := hp
      obtain ⟨f0, f1, f2, f3⟩ := fin (some (.exit id)) Y q1
      exact ⟨_, _, f1, .inr ⟨rfl, .exit id, hIx _ _ _ _ q2 (bY _ _), f2, f3⟩⟩
    | goto t =>
      obtain ⟨q1, q2⟩ := hp
      obtain ⟨f0, f1, f2, f3⟩ := fin (some (.goto t)) Y q1
      exact ⟨_, _, f1, .inr ⟨rfl, .goto t, hIx _ _ _ _ q2 (bY _ _), f2, f3⟩⟩
    | panic ch => exact hp.elim
    | outgrown => exact hp.elim
  · rintro e Y ⟨⟨v, rfl⟩, (⟨xs, hS, q1, q2, q3⟩ | ⟨pre, hSp, c, q1, q2, q3⟩)⟩
    · exact ⟨none, _, run_endLoop (P := P) q2 (by simp), hdone _ xs _ (Nat.le_refl _) hS (hI _ _ _ q1 (below_putObj _ _ _ (by show w.heap.size ≤ w.heap.size + 1; omega))) ((World.putObj_heap_other (by show w.heap.size ≠ w.heap.size + 1; omega)).trans q3)⟩
    · exact ⟨some c, _, run_endLoop (P := P) q2 (by simp), hstop _ c pre _ (Nat.le_refl _) hSp (hIx c _ _ _ q1 (below_putObj _ _ _ (by show w.heap.size ≤ w.heap.size + 1; omega))) ((World.putObj_heap_other (by show w.heap.size ≠ w.heap.size + 1; omega)).trans q3)⟩
end
end Go.Proofs.YtlanfceilajifaaGreatDoor
/- A region that draws its order and only reads, inside the round of a range over a function: one walk in the order of the text. -/
namespace Go.Proofs.YtlanfceilajifaaGreatDoor
set_option linter.unusedVariables false
set_option linter.unusedSimpArgs false
open Go.RowKit
section
variable {F : Fence} {n l : Nat} {P : Program} {ops : Array Oper} {md : Region.Mode} {Q : Exit → Act → World → Prop}
theorem upon_round {o : Oper} {a : Act} {K : Act → World → Prop} {r : Result Next} (h : o.uponIn F n P a K Q r) : o.uponIn (F.inRound l) n P a K Q r := by
  cases r with
  | ok x w' => cases x <;> exact h
  | halt v w' => cases v <;> exact h
theorem op_round {i : Nat} {a : Act} {w : World} {K : Act → World → Prop} (hnd : ∀ (i : Nat) (o : Oper), ops[i]? = some o → ∀ c, o.op ≠ .defer c) (h : wpOpIn F n P ops Q i K a w) : wpOpIn (F.inRound l) n P ops Q i K a w := by
  unfold wpOpIn at *
  cases ho : ops[i]? with
  | none => simpa [ho] using h
  | some o =>
    simp only [ho] at h ⊢
    by_cases hw : Region.wanted o (yielded ops a.tmps) = true
    · rw [if_pos hw] at h ⊢
      refine ⟨h.1, ?_⟩
      have h2 := h.2
      rw [Oper.semAt_eq _ _ _ (hnd i o ho)] at h2 ⊢
      exact upon_round h2
    · rw [if_neg hw] at h ⊢
      exact h
theorem any_round (hnd : ∀ (i : Nat) (o : Oper), ops[i]? = some o → ∀ c, o.op ≠ .defer c) : ∀ (fuel : Nat) (listed : Array Bool) (a : Act) (w : World), wpAnyIn F n P md ops Q fuel listed a w → wpAnyIn (F.inRound l) n P md ops Q fuel listed a w
  | 0, _, _, _, h => h
  | fuel + 1, _, _, _, h => ⟨h.1, fun i hi => op_round hnd (wpOpIn_mono (fun a w => any_round hnd fuel _ a w) (h.2 i hi))⟩
def noDefer (ops : Array Oper) : Bool := ops.all fun o => match o.op with | .defer _ => false | _ => true
theorem noDefer_at (h : noDefer ops = true) : ∀ (i : Nat) (o : Oper), ops[i]? = some o → ∀ c, o.op ≠ .defer c := by
  intro i o ho c e
  have := Array.all_eq_true_iff_forall_mem.1 h o (Array.mem_of_getElem? ho)
  rw [e] at this
  simp at this
/-- the region, in a round -/
theorem region_round {id : Nat} {a : Act} {w : World} {lst : List Oper} (hro : F.round = none) (hm : P.follows .mixedOrders = true) (hnd : noDefer lst.toArray = true) (hB : Region.lexB .any lst.toArray = true)
    (h : wpQuietIn F n P lst.toArray (fun w' => ∃ n, w' = w.drewN n) (fun a' => ∀ w', (∃ n, w' = w.drewN n) → Q .normal a' w') lst a) : (Code.region id lst.toArray true).wpIn (F.inRound l) n P Q a w := by
  simp only [Region.lexB, Bool.and_eq_true] at hB
  refine wpIn_region_any hm (any_round (noDefer_at hnd) _ _ _ _ (wpAnyIn_of_quiet (Q := fun a' => ∀ w', (∃ n, w' = w.drewN n) → Q .normal a' w') hro (fun _ w' hw' h => h w' hw') _ _ _ _ ⟨1, rfl⟩ ?_))
  have := wpAnyQIn_lex (F := F) (n := n) (C := fun w' => ∃ n, w' = w.drewN n) (md := .any) hB.1 lst.toArray.toList 0 (Array.replicate lst.toArray.size false) a (by simp) (by simpa using hB.2) (by simpa using h)
  simpa using this
end
end Go.Proofs.YtlanfceilajifaaGreatDoor
/- A region that draws its order inside the round of a range over a function, whose callees may make memory but answer one value each. -/
namespace Go.Proofs.YtlanfceilajifaaGreatDoor
set_option linter.unusedVariables false
set_option linter.unusedSimpArgs false
open Go.RowKit
section
variable {F : Fence} {n l : Nat} {P : Program} {Q : Exit → Act → World → Prop}
theorem region_round_sub {id : Nat} {a : Act} {w : World} {lst : List Oper} (hro : F.round = none) (hm : P.follows .mixedOrders = true) (hnd : noDefer lst.toArray = true) (hB : Region.lexB .any lst.toArray = true)
    (h : wpQuietIn F n P lst.toArray (fun w' => ∃ v : Sub w, w' = v.1) (fun a' => ∀ w', (∃ v : Sub w, w' = v.1) → Q .normal a' w') lst a) : (Code.region id lst.toArray true).wpIn (F.inRound l) n P Q a w := by
  simp only [Region.lexB, Bool.and_eq_true] at hB
  refine wpIn_region_any hm (any_round (noDefer_at hnd) _ _ _ _ (wpAnyIn_of_quiet (Q := fun a' => ∀ w', (∃ v : Sub w, w' = v.1) → Q .normal a' w') hro (fun _ w' hw' h => h w' hw') _ _ _ _ ⟨⟨{ w with drawn := w.drawn + 1 }, ⟨rfl, rfl, rfl, Nat.le_refl _, fun _ _ => rfl⟩⟩, rfl⟩ ?_))
  have := wpAnyQIn_lex (F := F) (n := n) (C := fun w' => ∃ v : Sub w, w' = v.1) (md := .any) hB.1 lst.toArray.toList 0 (Array.replicate lst.toArray.size false) a (by simp) (by simpa using hB.2) (by simpa using h)
  simpa using this
end
theorem blk_put {w w' : World} {L g : Nat} {t : TypeId} {cs : Array Value} (h : Blk w g t cs) (hl : ∃ r, w.heap[L]? = some (.loop r)) (hk : ∀ k, k ≠ L → w'.heap[k]? = w.heap[k]?) : Blk w' g t cs := by
  obtain ⟨r, hr⟩ := hl
  refine (hk g (fun e => ?_)).trans h
  subst e
  have := h.symm.trans hr
  cases this
theorem rdp_put {w w' : World} {L : Nat} {p : Nat → Prop} {A : Option Addr} {xs : List Value} (h : RdP w p A xs) (hl : ∃ r, w.heap[L]? = some (.loop r)) (hk : ∀ k, k ≠ L → w'.heap[k]? = w.heap[k]?) : RdP w' p A xs := fun h0 => by
  obtain ⟨r, hr⟩ := hl
  obtain ⟨b, off, e, hp, hc⟩ := h h0
  refine ⟨b, off, e, hp, fun i u hu => (World.cell?_of_block (hk b (fun e => ?_))).trans (hc i u hu)⟩
  subst e
  have := hc i u hu
  simp [World.cell?, hr] at this
end Go.Proofs.YtlanfceilajifaaGreatDoor
/- A function that defers a call and then goes over a function: how it leaves, with the loop's mark ahead of the call. -/
namespace Go.Proofs.YtlanfceilajifaaGreatDoor
set_option linter.unusedVariables false
set_option linter.unusedSimpArgs false
variable {P : Program}
/-- on its way out: marks whose blocks hand nothing over, then what the kit's law speaks of -/
def LvM (P : Program) (fn : Func) (tmps : Array Value) (R : Ending → World → Prop) : List Deferred → FrameMode → World → Prop
  | [], u, w => Leaves P fn tmps R [] u w
  | d :: ds, u, w => Leaves P fn tmps R (d :: ds) u w ∨ (u ≠ .run ∧ ∃ r w', d.target = .collected r ∧ (Instr.takeDeferred r).run P w = .ok [] w' ∧ LvM P fn tmps R ds u w')
theorem lvm_steps {fn : Func} {tmps : Array Value} {R : Ending → World → Prop} (ds : List Deferred) : ∀ (u : FrameMode) (w : World) (fr : Frame) (cs : List Frame), fr.mode = u → fr.defers = ds → fr.tmps = tmps → P.funcs[fr.fn]? = some fn → fr.kind = .normal → LvM P fn tmps R ds u w →
    ∃ e w' fr', R e w' ∧ Comes P (lone fr cs w) (lone fr' cs w') e ∧ fr'.fn = fr.fn ∧ fr'.leaving P w' e := by
  induction ds with
  | nil => intro u w fr cs hu hd ht hf hk h; exact leaves_steps [] u w fr cs hu hd ht hf hk h
  | cons d ds ih =>
    intro u w fr cs hu hd ht hf hk h
    rcases h with h | ⟨hrun, r, w', htar, htake, hrest⟩
    · exact leaves_steps (d :: ds) u w fr cs hu hd ht hf hk h
    · have h1 := step_collected (cs := cs) (hu ▸ hrun) hd htar htake
      obtain ⟨e, w2, fr', q1, q2, q3, q4⟩ := ih u w' { fr with defers := [] ++ ds } cs hu rfl ht hf hk hrest
      exact ⟨e, w2, fr', q1, Comes.of_steps (.one h1) q2, q3, q4⟩
/-- what the body must achieve -/
def bodyL (P : Program) (fn : Func) (R : Ending → World → Prop) : Exit → Act → World → Prop
  | .normal, a, w => LvM P fn a.tmps R a.defers .returning w
  | .ret, a, w => LvM P fn a.tmps R a.defers .returning w
  | .panic ch, a, w => LvM P fn a.tmps R a.defers (.panicking ch) w
  | .outgrown, _, w => R .outgrown w
  | _, _, _ => False
theorem calls_of_lvm {f : FuncId} {fn : Func} {c : Code} {args : Array Value} {w : World} {R : Ending → World → Prop} (hf : P.funcs[f]? = some fn) (hb : fn.body = some c)
    (h : c.wp P (bodyL P fn R) { tmps := args ++ Array.replicate (fn.ntmps - args.size) undef, defers := [] } w) : Calls P f args w R := by
  intro cs
  have hen : Frame.enter P f args .normal = ({ (default : Frame) with fn := f, kind := .normal } : Frame).at { tmps := args ++ Array.replicate (fn.ntmps - args.size) undef, defers := [] } [.code c] := by
    simp [Frame.enter, Frame.at, hf, hb]
  obtain ⟨e, a', w', hq, harr⟩ := h { (default : Frame) with fn := f, kind := .normal } [] cs
  rw [← hen] at harr
  cases e with
  | normal =>
    obtain ⟨e', w2, fr', q1, q2, q3, q4⟩ := lvm_steps a'.defers .returning w' { ({ (default : Frame) with fn := f, kind := .normal } : Frame).at a' [] with mode := .returning } cs rfl rfl rfl hf rfl hq
    exact ⟨e', w2, fr', q1, Comes.of_steps (Steps.trans harr (.one step_end)) q2, q3, q4⟩
  | ret =>
    obtain ⟨todo, h0⟩ := harr
    obtain ⟨e', w2, fr', q1, q2, q3, q4⟩ := lvm_steps a'.defers .returning w' { ({ (default : Frame) with fn := f, kind := .normal } : Frame).at a' todo with mode := .returning } cs rfl rfl rfl hf rfl hq
    exact ⟨e', w2, fr', q1, Comes.of_steps h0 q2, q3, q4⟩
  | panic ch =>
    obtain ⟨todo, h0⟩ := harr
    obtain ⟨e', w2, fr', q1, q2, q3, q4⟩ := lvm_steps a'.defers (.panicking ch) w' { ({ (default : Frame) with fn := f, kind := .normal } : Frame).at a' todo with mode := .panicking ch } cs rfl rfl rfl hf rfl hq
    exact ⟨e', w2, fr', q1, Comes.of_steps h0 q2, q3, q4⟩
  | exit id => exact hq.elim
  | goto l => exact hq.elim
  | outgrown => exact ⟨.outgrown, w', { (default : Frame) with fn := f, kind := .normal }, hq, harr.resolve_left (by simp), rfl, trivial⟩
end Go.Proofs.YtlanfceilajifaaGreatDoor
