/- Plain words: rows of records of one width; what a call leaves alone. -/
import Derived.Test.YtgjeejdebneoaaaDoorBase2
namespace Go.Proofs.YtgjeejdebneoaaaDoor
set_option linter.unusedVariables false
set_option linter.unusedSimpArgs false
open Go.RowKit
section
variable {α : Type} {f : α → List Value} {k : Nat}
theorem rows_len (hk : ∀ x, (f x).length = k) (l : List α) : (l.flatMap f).length = l.length * k := by
  induction l with
  | nil => simp
  | cons x l ih => rw [List.flatMap_cons, List.length_append, hk, ih, List.length_cons, Nat.add_mul]; omega
theorem rows_get (hk : ∀ x, (f x).length = k) (l : List α) : ∀ (i : Nat) (x : α) (j : Nat), l[i]? = some x → j < k → (l.flatMap f)[i * k + j]? = (f x)[j]? := by
  induction l with
  | nil => intro i x j h; simp at h
  | cons y l ih =>
    intro i x j h hj
    rw [List.flatMap_cons]
    cases i with
    | zero =>
      simp at h
      subst h
      rw [List.getElem?_append_left (by rw [hk]; omega)]
      simp
    | succ i =>
      simp at h
      rw [List.getElem?_append_right (by rw [hk, Nat.add_mul]; omega), hk, show (i + 1) * k + j - k = i * k + j by rw [Nat.add_mul]; omega]
      exact ih i x j h hj
theorem rows_one (h1 : ∀ x, ∀ u ∈ f x, u.oneCell' = true) (l : List α) : ∀ u ∈ l.flatMap f, u.oneCell' = true := by
  intro u hu
  obtain ⟨x, _, hx⟩ := List.mem_flatMap.1 hu
  exact h1 x u hx
/-- a record of a row that is read -/
theorem rows_at (hk : ∀ x, (f x).length = k) (hk0 : 0 < k) {w : World} {B : Nat} {A : Option Addr} {l : List α} (h : Rd w B A (l.flatMap f)) {i : Nat} {x : α} (hi : l[i]? = some x) :
    ∃ b off, A = some ⟨b, off, none⟩ ∧ b < B ∧ ∀ j u, (f x)[j]? = some u → w.cell? ⟨b, off + (i * k + j), none⟩ = some u := by
  have hlt : i < l.length := by
    rcases Nat.lt_or_ge i l.length with h | h
    · exact h
    · rw [List.getElem?_eq_none h] at hi; cases hi
  obtain ⟨b, off, e, hb, hc⟩ := h (by rw [rows_len hk]; have := Nat.mul_le_mul_right k hlt; rw [Nat.succ_mul] at this; omega)
  refine ⟨b, off, e, hb, fun j u hu => hc _ u ?_⟩
  have hj : j < k := by
    rcases Nat.lt_or_ge j k with h | h
    · exact h
    · rw [List.getElem?_eq_none (by rw [hk]; exact h)] at hu; cases hu
  rw [rows_get hk l i x j hi hj]
  exact hu
theorem rows_cut (hk : ∀ x, (f x).length = k) (l : List α) (a n : Nat) : ((l.flatMap f).drop (a * k)).take (n * k) = ((l.drop a).take n).flatMap f := by
  induction l generalizing a n with
  | nil => simp
  | cons x l ih =>
    cases a with
    | zero =>
      cases n with
      | zero => simp
      | succ n =>
        rw [List.drop_zero, List.take_succ_cons, List.flatMap_cons, List.flatMap_cons, Nat.zero_mul, List.drop_zero, Nat.add_mul, Nat.one_mul, Nat.add_comm, ← hk x, List.take_length_add_append]
        congr 1
        have := ih 0 n
        simpa [hk] using this
    | succ a =>
      rw [List.flatMap_cons, Nat.add_mul, Nat.one_mul, Nat.add_comm (a * k) k, ← hk x, List.drop_length_add_append, hk, List.drop_succ_cons]
      exact ih a n
end
/-- where the cells of a list lie: in a block that meets a condition -/
def In (p : Nat → Prop) (A : Option Addr) : Prop := ∀ a, A = some a → p a.block
theorem In.mono {p q : Nat → Prop} {A : Option Addr} (h : In p A) (hpq : ∀ b, p b → q b) : In q A := fun a e => hpq _ (h a e)
/-- what lies in the blocks of p lies as it lay -/
def Fr (p : Nat → Prop) (w w' : World) : Prop := w'.os = w.os ∧ w'.tape = w.tape ∧ w'.output = w.output ∧ w.heap.size ≤ w'.heap.size ∧ ∀ k, p k → k < w.heap.size → w'.heap[k]? = w.heap[k]?
section
variable {p q : Nat → Prop} {w w1 w2 : World}
theorem Fr.refl : Fr p w w := ⟨rfl, rfl, rfl, Nat.le_refl _, fun _ _ _ => rfl⟩
theorem Fr.trans (h : Fr p w w1) (k : Fr p w1 w2) : Fr p w w2 :=
  ⟨k.1.trans h.1, k.2.1.trans h.2.1, k.2.2.1.trans h.2.2.1, Nat.le_trans h.2.2.2.1 k.2.2.2.1, fun i hi hl => (k.2.2.2.2 i hi (Nat.lt_of_lt_of_le hl h.2.2.2.1)).trans (h.2.2.2.2 i hi hl)⟩
theorem Fr.mono (h : Fr p w w1) (hpq : ∀ b, b < w.heap.size → q b → p b) : Fr q w w1 := ⟨h.1, h.2.1, h.2.2.1, h.2.2.2.1, fun i hi hl => h.2.2.2.2 i (hpq i hl hi) hl⟩
theorem Fr.of_below (h : Below w.heap.size w w1) : Fr p w w1 := ⟨h.os, h.tape, h.output, h.size, fun i _ hl => h.block i hl⟩
theorem Fr.below (h : Fr p w w1) {B : Nat} (hB : B ≤ w.heap.size) (hp : ∀ b, b < B → p b) : Below B w w1 :=
  ⟨h.1, h.2.1, h.2.2.1, h.2.2.2.1, fun k hk => h.2.2.2.2 k (hp k hk) (by omega)⟩
theorem Fr.blk (h : Fr p w w1) {g : Nat} {t : TypeId} {cs : Array Value} (hb : Blk w g t cs) (hg : p g) : Blk w1 g t cs := (h.2.2.2.2 g hg hb.lt).trans hb
theorem Fr.cell (h : Fr p w w1) {a : Addr} {u : Value} (hc : w.cell? a = some u) (ha : p a.block) : w1.cell? a = some u :=
  (World.cell?_of_block (h.2.2.2.2 a.block ha (cell_lt hc))).trans hc
theorem Fr.rd (h : Fr p w w1) {B : Nat} {A : Option Addr} {xs : List Value} (hr : Rd w B A xs) (hA : In p A) : Rd w1 B A xs := fun h0 => by
  obtain ⟨b, off, e, hb, hc⟩ := hr h0
  exact ⟨b, off, e, hb, fun i u hu => h.cell (hc i u hu) (show p b from hA ⟨b, off, none⟩ e)⟩
theorem Fr.drewN (n : Nat) : Fr p w (w.drewN n) := ⟨rfl, rfl, rfl, Nat.le_refl _, fun _ _ _ => rfl⟩
theorem Fr.alloc (o : Obj) : Fr p w (w.alloc o) := Fr.of_below ((Below.refl _ _).alloc (Nat.le_refl _) o)
theorem Fr.set {a : Addr} (ha : ∀ b, p b → b ≠ a.block) (u : Value) : Fr p w (w.setCell a u) :=
  ⟨rfl, rfl, rfl, by simp [World.setCell], fun k hk _ => Below.heap_setCell w a u k (ha k hk)⟩
theorem Fr.grown {row : Option Nat} (h : w.grownBy w1 row) (hp : ∀ b, p b → row ≠ some b) : Fr p w w1 := ⟨h.os, h.tape, h.output, h.size, fun k hk hl => h.block k hl (fun e => hp k hk e.symm)⟩
end
theorem Rd.re {w : World} {B B' : Nat} {A : Option Addr} {xs : List Value} (h : Rd w B A xs) (hin : In (· < B') A) : Rd w B' A xs := fun h0 => by
  obtain ⟨b, off, e, _, hc⟩ := h h0
  exact ⟨b, off, e, hin _ e, hc⟩
theorem Rd.off {w : World} {B : Nat} {A : Option Addr} {xs : List Value} (h : Rd w B A xs) {g i : Nat} (hp : ∀ a, A = some a → g ≠ a.block) (u : Value) : Rd (w.setCell ⟨g, i, none⟩ u) B A xs := fun h0 => by
  obtain ⟨b, off, e, hb, hc⟩ := h h0
  exact ⟨b, off, e, hb, fun i v hv => (World.cell?_setCell_far w ⟨g, _, none⟩ ⟨b, off + i, none⟩ u (hp ⟨b, off, none⟩ e)).trans (hc i v hv)⟩
theorem own_row {w : World} {base : Nat} {e : TypeId} {size n : Nat} {v : Value} {xs : List Value} (h : w.ownsRow base e size v n xs) :
    ∃ A c, v = .slice A n c ∧ n ≤ c ∧ c ≤ maxLen ∧ Rd w w.heap.size A xs ∧ (∀ a, A = some a → base ≤ a.block) := by
  rcases h.2 with ⟨rfl, h0⟩ | ⟨g, cap, cur, rfl, hg, _, hc, hm, _⟩
  · have hx := h.1
    rw [h0] at hx
    obtain rfl : xs = [] := List.eq_nil_of_length_eq_zero (by omega)
    exact ⟨none, 0, by rw [h0], by omega, by simp [maxLen], Rd.nil, by simp⟩
  · exact ⟨_, _, rfl, hc, hm, Rd.of_own h, by simp; exact hg⟩
theorem own_base' {w : World} {base : Nat} {e : TypeId} {size n : Nat} {v : Value} {xs : List Value} (h : w.ownsRow base e size v n xs) : ∀ k, v.ownBlock = some k → base ≤ k := by
  intro k hk
  rcases h.2 with ⟨rfl, h0⟩ | ⟨g, cap, cur, rfl, hg, _⟩
  · simp [Value.ownBlock] at hk
  · simp [Value.ownBlock] at hk; omega
/-- what is owned is owned still, where its block lies as it lay -/
theorem own_keep {w w' : World} {base base' : Nat} {e : TypeId} {size n : Nat} {v : Value} {xs : List Value} (h : w.ownsRow base e size v n xs) (hB : base' ≤ base) (hk : ∀ k, v.ownBlock = some k → k < w.heap.size → w'.heap[k]? = w.heap[k]?) : w'.ownsRow base' e size v n xs :=
  ⟨h.1, by
    rcases h.2 with h0 | ⟨g, cap, cur, h1, h2, h3, h4⟩
    · exact .inl h0
    · refine .inr ⟨g, cap, cur, h1, Nat.le_trans hB h2, ?_, h4⟩
      have hg : g < w.heap.size := by
        rcases Nat.lt_or_ge g w.heap.size with h | h
        · exact h
        · rw [Array.getElem?_eq_none h] at h3; cases h3
      rw [hk g (by rw [h1]; rfl) hg]
      exact h3⟩
theorem own_lt {w : World} {base : Nat} {e : TypeId} {size n : Nat} {v : Value} {xs : List Value} (h : w.ownsRow base e size v n xs) : ∀ k, v.ownBlock = some k → k < w.heap.size := by
  intro k hk
  rcases h.2 with ⟨rfl, h0⟩ | ⟨g, cap, cur, rfl, hg, hh, _⟩
  · simp [Value.ownBlock] at hk
  · simp [Value.ownBlock] at hk
    subst hk
    rcases Nat.lt_or_ge g w.heap.size with h | h
    · exact h
    · rw [Array.getElem?_eq_none h] at hh; cases hh
theorem Fr.then_below {p : Nat → Prop} {w w1 w2 : World} {B : Nat} (h : Fr p w w1) (hb : Below B w1 w2) (hB : w.heap.size ≤ B) : Fr p w w2 :=
  ⟨hb.os.trans h.1, hb.tape.trans h.2.1, hb.output.trans h.2.2.1, Nat.le_trans h.2.2.2.1 hb.size, fun k hk hl => (hb.block k (by omega)).trans (h.2.2.2.2 k hk hl)⟩
theorem Blk.six {w : World} {g : Nat} {t : TypeId} {a0 a1 a2 a3 a4 a5 : Value} (h : Blk w g t #[a0, a1, a2, a3, a4, a5]) : w.cell? ⟨g, 0, none⟩ = some a0 ∧ w.cell? ⟨g, 1, none⟩ = some a1 ∧ w.cell? ⟨g, 2, none⟩ = some a2 ∧ w.cell? ⟨g, 3, none⟩ = some a3 ∧ w.cell? ⟨g, 4, none⟩ = some a4 ∧ w.cell? ⟨g, 5, none⟩ = some a5 :=
  ⟨h.cell 0, h.cell 1, h.cell 2, h.cell 3, h.cell 4, h.cell 5⟩
theorem Blk.ice6 {w : World} {g : Nat} {t : TypeId} {cs : Array Value} (h : Blk w g t cs) : w.frozen? ⟨g, 0, none⟩ = false ∧ w.frozen? ⟨g, 1, none⟩ = false ∧ w.frozen? ⟨g, 2, none⟩ = false ∧ w.frozen? ⟨g, 3, none⟩ = false ∧ w.frozen? ⟨g, 4, none⟩ = false ∧ w.frozen? ⟨g, 5, none⟩ = false :=
  ⟨h.frozen 0, h.frozen 1, h.frozen 2, h.frozen 3, h.frozen 4, h.frozen 5⟩
theorem Blk.three {w : World} {g : Nat} {t : TypeId} {a0 a1 a2 : Value} (h : Blk w g t #[a0, a1, a2]) : w.cell? ⟨g, 0, none⟩ = some a0 ∧ w.cell? ⟨g, 1, none⟩ = some a1 ∧ w.cell? ⟨g, 2, none⟩ = some a2 := ⟨h.cell 0, h.cell 1, h.cell 2⟩
theorem Blk.ice3 {w : World} {g : Nat} {t : TypeId} {cs : Array Value} (h : Blk w g t cs) : w.frozen? ⟨g, 0, none⟩ = false ∧ w.frozen? ⟨g, 1, none⟩ = false ∧ w.frozen? ⟨g, 2, none⟩ = false := ⟨h.frozen 0, h.frozen 1, h.frozen 2⟩
theorem Fr.put {w w1 : World} {g : Nat} (h : Fr (fun k => k ≠ g) w w1) (i : Nat) (u : Value) : Fr (fun k => k ≠ g) w (w1.setCell ⟨g, i, none⟩ u) := h.trans (Fr.set (a := ⟨g, i, none⟩) (fun _ h => h) u)
/-- cells of a list stand from an address on, in a block that meets a condition -/
def RdP (w : World) (p : Nat → Prop) (A : Option Addr) (xs : List Value) : Prop :=
  0 < xs.length → ∃ b off, A = some ⟨b, off, none⟩ ∧ p b ∧ ∀ i u, xs[i]? = some u → w.cell? ⟨b, off + i, none⟩ = some u
theorem RdP.rd {w : World} {p : Nat → Prop} {A : Option Addr} {xs : List Value} (h : RdP w p A xs) : Rd w w.heap.size A xs := fun h0 => by
  obtain ⟨b, off, e, _, hc⟩ := h h0
  obtain ⟨u, hu⟩ : ∃ u, xs[0]? = some u := ⟨xs[0], List.getElem?_eq_getElem h0⟩
  exact ⟨b, off, e, cell_lt (hc 0 u hu), hc⟩
theorem RdP.fr {w w' : World} {p q r : Nat → Prop} {A : Option Addr} {xs : List Value} (h : RdP w p A xs) (hf : Fr r w w') (h1 : ∀ b, p b → b < w.heap.size → r b) (h2 : ∀ b, p b → b < w.heap.size → q b) : RdP w' q A xs := fun h0 => by
  obtain ⟨b, off, e, hp, hc⟩ := h h0
  obtain ⟨u, hu⟩ : ∃ u, xs[0]? = some u := ⟨xs[0], List.getElem?_eq_getElem h0⟩
  have hl := cell_lt (hc 0 u hu)
  exact ⟨b, off, e, h2 b hp hl, fun i v hv => hf.cell (hc i v hv) (h1 b hp hl)⟩
theorem Rd.to {w : World} {B : Nat} {p : Nat → Prop} {A : Option Addr} {xs : List Value} (h : Rd w B A xs) (hp : ∀ a, A = some a → a.block < w.heap.size → p a.block) : RdP w p A xs := fun h0 => by
  obtain ⟨b, off, e, _, hc⟩ := h h0
  obtain ⟨u, hu⟩ : ∃ u, xs[0]? = some u := ⟨xs[0], List.getElem?_eq_getElem h0⟩
  exact ⟨b, off, e, hp _ e (cell_lt (hc 0 u hu)), hc⟩
theorem Fr.frozen {p : Nat → Prop} {w w1 : World} (h : Fr p w w1) {a : Addr} (hl : a.block < w.heap.size) (ha : p a.block) : w1.frozen? a = w.frozen? a := by
  unfold World.frozen?
  rw [h.2.2.2.2 a.block ha hl]
end Go.Proofs.YtgjeejdebneoaaaDoor
