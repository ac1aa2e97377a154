/- MA: Base, Base2, Num, Shelf, Oct, Rdr, Addr: several texts in one. -/
import Derived.Handy
import Derived.WalkSpells
import Derived.Deep.QuietTactic
import Derived.BigQuiet
import Derived.Lib.Hide
import Derived.Deep.Draws
import Derived.Maps.AppendAt
import Derived.Deep.AppendLies
import Derived.Deep.RegionWith
import Derived.Deep.RegionHeld3
import Derived.Test.YtlanfceilajifaaGreatDoorRows
import Derived.Shelf.Small.Bits
import Derived.Test.YtlanfceilajifaaGreatDoorProg
import Derived.Laws.EntriesVeiled
/- Plain words on worlds, lists and numbers, with no program in sight: rows of cells that are read, rows that a call made, bytes and the numbers that they are. -/
namespace Go.Proofs.YtlanfceilajifaaGreatDoor
set_option linter.unusedVariables false
set_option linter.unusedSimpArgs false
open Go.RowKit

/-- cells of a list stand from an address on, in a block below B (asked only where there are any) -/
def Rd (w : World) (B : Nat) (A : Option Addr) (xs : List Value) : Prop :=
  0 < xs.length → ∃ b off, A = some ⟨b, off, none⟩ ∧ b < B ∧ ∀ i u, xs[i]? = some u → w.cell? ⟨b, off + i, none⟩ = some u

/-- a byte as a cell -/
def b8 (x : UInt8) : Value := .int .u8 x.toNat

/-- the number whose bytes these are, the highest one first -/
def be (l : List UInt8) : Nat := l.foldl (fun n b => n * 256 + b.toNat) 0

theorem be_snoc (l : List UInt8) (x : UInt8) : be (l ++ [x]) = be l * 256 + x.toNat := by simp [be]
theorem be_take (l : List UInt8) (k : Nat) (h : k < l.length) : be (l.take (k + 1)) = be (l.take k) * 256 + l[k].toNat := by
  rw [List.take_succ_eq_append_getElem h, be_snoc]
theorem be_aux (l : List UInt8) : ∀ n : Nat, l.foldl (fun n b => n * 256 + b.toNat) n < (n + 1) * 256 ^ l.length := by
  induction l with
  | nil => intro n; simp
  | cons x l ih =>
    intro n
    have hx : x.toNat < 256 := UInt8.toNat_lt x
    have h1 := ih (n * 256 + x.toNat)
    have h2 : (n * 256 + x.toNat + 1) * 256 ^ l.length ≤ ((n + 1) * 256) * 256 ^ l.length := Nat.mul_le_mul_right _ (by omega)
    simp only [List.foldl_cons, List.length_cons, Nat.pow_succ]
    rw [Nat.mul_comm (256 ^ l.length) 256, ← Nat.mul_assoc]
    omega
theorem be_lt (l : List UInt8) : be l < 256 ^ l.length := by
  have := be_aux l 0
  simpa [be] using this
theorem or_byte (n x : Nat) (hx : x < 256) : n * 256 ||| x = n * 256 + x := by
  have := Nat.shiftLeft_add_eq_or_of_lt (a := n) (b := x) (i := 8) hx
  rw [Nat.shiftLeft_eq] at this
  exact this.symm
theorem or_u32 (n x : Nat) (hn : n < 16777216) (hx : x < 256) : bits .or .u32 ((n : Int) * 256) (x : Int) = ((n * 256 + x : Nat) : Int) := by
  have := u32_or_nat (n * 256) x (by omega) (by omega)
  rw [or_byte n x hx] at this
  rw [← this]; rfl

/-- a scope whose one label is only jumped to from ahead of it: what stands behind the label is walked once for each jump -/
theorem scope_fwd {P : Program} {a : Act} {w : World} {Q : Exit → Act → World → Prop} {c rest : Code} (l : Nat) (hf : findLabel c l = some rest)
    (first : c.wp P (Exit.jump l (fun a w => rest.wp P (Exit.noGoto Q) a w) Q) a w) : (Code.scope c).wp P Q a w := by
  refine wp_scope_jumps l (fun a w => rest.wp P (Exit.noGoto Q) a w) (fun _ _ => 0) hf first ?_
  intro a w h
  refine wp_mono h ?_
  intro e a w he
  cases e <;> first | exact he | exact he.elim
section
variable {Q : Exit → Act → World → Prop} {J : Act → World → Prop} {l : Nat} {a : Act} {w : World}
@[go_sem] theorem jump_normal : Exit.jump l J Q .normal a w = Q .normal a w := rfl
@[go_sem] theorem jump_exit (id : Nat) : Exit.jump l J Q (.exit id) a w = Q (.exit id) a w := rfl
@[go_sem] theorem jump_ret : Exit.jump l J Q .ret a w = Q .ret a w := rfl
@[go_sem] theorem jump_panic (ch : List PanicEntry) : Exit.jump l J Q (.panic ch) a w = Q (.panic ch) a w := rfl
@[go_sem] theorem jump_goto (k : Nat) : Exit.jump l J Q (.goto k) a w = (k = l ∧ J a w) := rfl
end

/-- the string of bytes -/
def str (l : List UInt8) : ByteArray := ⟨l.toArray⟩
theorem str_toList (l : List UInt8) : (str l).toList = l := ByteArray.toList_mk l
theorem str_beq (a b : List UInt8) : (str a == str b) = (a == b) := by rw [beq_toListBytes, str_toList, str_toList]
theorem str_bne (a b : List UInt8) : (str a != str b) = (a != b) := by unfold bne; rw [str_beq]
theorem str_same (a : List UInt8) : (str a != str a) = false := by simp [str_bne]
theorem str_inj {a b : List UInt8} : str a = str b ↔ a = b := by simp [str]

section
variable {w w' : World} {B B' : Nat} {A : Option Addr} {xs : List Value}
theorem Rd.keep (h : Rd w B A xs) (hk : ∀ p : Addr, p.block < B → w'.cell? p = w.cell? p) : Rd w' B A xs := fun h0 => by
  obtain ⟨b, off, e, hb, hc⟩ := h h0
  exact ⟨b, off, e, hb, fun i u hu => (hk ⟨b, off + i, none⟩ hb).trans (hc i u hu)⟩
theorem Rd.more (h : Rd w B A xs) (hB : B ≤ B') : Rd w B' A xs := fun h0 => by
  obtain ⟨b, off, e, hb, hc⟩ := h h0
  exact ⟨b, off, e, by omega, hc⟩
theorem Rd.below (h : Rd w B A xs) (hb : Below B w w') : Rd w' B A xs := h.keep fun _ hp => hb.cell hp
theorem Rd.alloc (h : Rd w B A xs) (hB : B ≤ w.heap.size) (o : Obj) : Rd (w.alloc o) B A xs := h.below ((Below.refl _ _).alloc hB o)
theorem Rd.drew (h : Rd w B A xs) : Rd w.drew B A xs := h
theorem Rd.drewN (h : Rd w B A xs) (n : Nat) : Rd (w.drewN n) B A xs := h
theorem Rd.nil : Rd w B A [] := fun h => absurd h (by simp)
theorem Rd.at (h : Rd w B A xs) {k : Nat} (hk : k < xs.length) : ∃ b off, A = some ⟨b, off, none⟩ ∧ b < B ∧ w.cell? ⟨b, off + k, none⟩ = some xs[k] := by
  obtain ⟨b, off, e, hb, hc⟩ := h (by omega)
  exact ⟨b, off, e, hb, hc k _ (List.getElem?_eq_getElem hk)⟩
theorem add_plain (b off k : Nat) : (⟨b, off, none⟩ : Addr).add k = ⟨b, off + k, none⟩ := by unfold Addr.add; split <;> simp_all
/-- some cells out of the middle -/
theorem Rd.cut (h : Rd w B A xs) (k n : Nat) (hn : 0 < n) (hk : k + n ≤ xs.length) : Rd w B (A.map (·.add k)) ((xs.drop k).take n) := fun _ => by
  obtain ⟨b, off, rfl, hb, hc⟩ := h (by omega)
  refine ⟨b, off + k, by simp [add_plain], hb, fun i u hu => ?_⟩
  have hi : i < n := by
    rcases Nat.lt_or_ge i n with h | h
    · exact h
    · rw [List.getElem?_take, if_neg (by omega)] at hu; cases hu
  rw [List.getElem?_take, if_pos hi, List.getElem?_drop] at hu
  have := hc _ u hu
  rwa [← Nat.add_assoc] at this
theorem Rd.pre {ys : List Value} (h : Rd w B A (xs ++ ys)) : Rd w B A xs := fun h0 => by
  obtain ⟨b, off, e, hb, hc⟩ := h (by simp; omega)
  exact ⟨b, off, e, hb, fun i u hu => hc i u (by
    have : i < xs.length := by
      rcases Nat.lt_or_ge i xs.length with h | h
      · exact h
      · rw [List.getElem?_eq_none h] at hu; cases hu
    rw [List.getElem?_append_left this]; exact hu)⟩
theorem Rd.of_own {base : Nat} {e : TypeId} {size n c : Nat} (h : w.ownsRow base e size (.slice A n c) n xs) : Rd w w.heap.size A xs := fun h0 => by
  rcases h.2 with ⟨h1, h2⟩ | ⟨g, cap, cur, hv, hb, hh, hn, hm, hs, ht⟩
  · have := h.1; subst h2; simp at this; subst this; simp at h0
  · injection hv with hA _ _
    subst hA
    refine ⟨g, 0, rfl, ?_, fun i u hu => ?_⟩
    · rcases Nat.lt_or_ge g w.heap.size with h | h
      · exact h
      · rw [Array.getElem?_eq_none h] at hh; cases hh
    · have := h.cells (g := g) (by simp [Value.ownBlock]) i u hu
      rwa [add_plain] at this
theorem Rd.new (w : World) (t : TypeId) (ys : List Value) : Rd (w.alloc (.cells ys.toArray t)) (w.heap.size + 1) (some ⟨w.heap.size, 0, none⟩) ys := fun _ =>
  ⟨_, _, rfl, by omega, fun i u hu => by simp [hu]⟩
end

section
variable {P : Program} {w : World} {B : Nat} {A : Option Addr} {l : List UInt8}
/-- string(b), b any slice of bytes -/
theorem conv_rd (src dst e : TypeId) (hs : P.underlying src = some (.slice e)) (he : P.underlying e = some (.int .u8)) (hd : P.underlying dst = some .string) (c : Nat) (h : Rd w B A (l.map b8)) :
    (convert src dst (.slice A l.length c)).run P w = .ok (.string (str l)) w := by
  by_cases h0 : 0 < l.length
  · obtain ⟨b, off, rfl, _, hc⟩ := h (by simpa using h0)
    rw [run_convert_bytes_arg w src e hs he b off l.length c (l.map fun x => (x.toNat : Int)) (by simp) (fun i hi => ?_) dst hd]
    · simp [strOfNums, str, Function.comp_def]
    · rw [hc i (b8 l[i]) (by simp [hi])]
      simp [b8, hi]
  · obtain rfl : l = [] := List.eq_nil_of_length_eq_zero (by omega)
    cases A with
    | none => rw [List.length_nil, run_convert_bytes_nil w src e hs he 0 c dst hd]; rfl
    | some a =>
      rw [run_convert_bytes_string w src dst e _ _ c hs he hd, run_bytesToString w _ _ c [] (by simp [loadCells, loadCellsFrom])]
      rfl

/-- append(v, x...), v a row of the call's own (or nil), x any row: run -/
theorem run_append_rd (base : Nat) (t ty e : TypeId) (i : TypeInfo) (z : Value) (size bytes : Nat) (ht : P.underlying t = some (.slice e)) (hi : P.info? e = some i) (hz : i.zero = some z)
    (hsize : i.size = size) (hby : i.bytes = bytes) (hzs : z.cells.size = size) (hsz : 0 < size)
    (v : Value) (n : Nat) (xs : List Value) (hown : w.ownsRow base e size v n xs)
    (m c : Nat) (ys : List Value) (hl : ys.length = m * size) (hr : Rd w B A ys) (h1 : ∀ u ∈ ys, u.oneCell' = true)
    (h63 : n + m ≤ maxLen) (hbytes : (n + m) * bytes ≤ 140737488355328) (hbase : base ≤ w.heap.size) :
    ∃ v' w', (Builtin.append_ #[t, t] ty #[v, .slice A m c]).run P w = .ok v' w' ∧ w'.ownsRow base e size v' (n + m) (xs ++ ys) ∧ w.grownBy w' v.ownBlock ∧
      (v'.ownBlock = v.ownBlock ∨ v'.ownBlock = some w.heap.size) := by
  cases A with
  | some a =>
    obtain ⟨v', w', g1, g2, g3, _, g5⟩ := run_append_own_at (P := P) w base t ty e i z size bytes ht hi hz hsize hby hzs hsz v n xs hown a m c ys hl (fun j u hu => by
      obtain ⟨b, off, hA, _, hc⟩ := hr (by
        rcases Nat.eq_zero_or_pos ys.length with h | h
        · rw [List.eq_nil_of_length_eq_zero h] at hu; simp at hu
        · exact h)
      injection hA with hA
      subst hA
      rw [add_plain]
      exact hc j u hu) h1 h63 hbytes hbase
    exact ⟨v', w', g1, g2, g3, g5⟩
  | none =>
    have hy : ys = [] := by
      rcases Nat.eq_zero_or_pos ys.length with h | h
      · exact List.eq_nil_of_length_eq_zero h
      · obtain ⟨_, _, hA, _⟩ := hr h; cases hA
    subst hy
    have hm : m = 0 := by
      rcases Nat.eq_zero_or_pos m with h | h
      · exact h
      · have := Nat.mul_pos h hsz; simp at hl; omega
    subst hm
    refine ⟨v, w, ?_, by simpa using hown, World.grownBy.refl w _, .inl rfl⟩
    rcases hown.2 with ⟨rfl, rfl⟩ | ⟨g, cap, cur, rfl, _, _, hnc, _⟩
    · simp [Builtin.append_, run_underlying ht, sizeOf, typeInfo, hi, Builtin.lenOf, Builtin.firstCells]
    · simp [Builtin.append_, run_underlying ht, sizeOf, typeInfo, hi, Builtin.lenOf, Builtin.firstCells, hnc, storeCells]

/-- the same, at the operation -/
theorem wpList_append_rd {ops : Array Oper} {rest : List Oper} {o : Oper} {a : Act} {Q : Exit → Act → World → Prop} (hgd : o.guard = none) (s x : Operand) (t : TypeId)
    (ho : o.op = .call { callee := .builtin .append, args := #[s, x], argTypes := #[t, t] })
    (base : Nat) (e : TypeId) (i : TypeInfo) (z : Value) (size bytes : Nat) (ht : P.underlying t = some (.slice e)) (hi : P.info? e = some i) (hz : i.zero = some z)
    (hsize : i.size = size) (hby : i.bytes = bytes) (hzs : z.cells.size = size) (hsz : 0 < size)
    (v : Value) (n : Nat) (xs : List Value) (hs : a.eval s = v) (hown : w.ownsRow base e size v n xs)
    (m c : Nat) (ys : List Value) (hx : a.eval x = .slice A m c) (hl : ys.length = m * size) (hr : Rd w B A ys) (h1 : ∀ u ∈ ys, u.oneCell' = true)
    (h63 : n + m ≤ maxLen) (hbytes : (n + m) * bytes ≤ 140737488355328) (hbase : base ≤ w.heap.size)
    (h : ∀ v' w', w'.ownsRow base e size v' (n + m) (xs ++ ys) → w.grownBy w' v.ownBlock → (v'.ownBlock = v.ownBlock ∨ v'.ownBlock = some w.heap.size) → wpList P ops Q rest (a.put o.dst v') w') :
    wpList P ops Q (o :: rest) a w := by
  refine wpList_plain hgd fun K hK => ?_
  obtain ⟨v', w', g1, g2, g3, g4⟩ := run_append_rd (P := P) base t o.type e i z size bytes ht hi hz hsize hby hzs hsz v n xs hown m c ys hl hr h1 h63 hbytes hbase
  unfold Oper.wp execOp
  simp only [ho, resolve, invoke, builtin, Sem.run_bind, Sem.run_pure, Result.andThen_ok, List.map_toArray, List.map_cons, List.map_nil, hs, hx, g1]
  exact hK _ _ (h v' w' g2 g3 g4)
end
theorem b8_one (l : List UInt8) : ∀ u ∈ l.map b8, u.oneCell' = true := by
  intro u hu
  obtain ⟨x, _, rfl⟩ := List.mem_map.1 hu
  rfl

/-- the bytes of a number, the highest one first -/
def bs : Nat → Nat → List UInt8
  | 0, _ => []
  | k + 1, n => bs k (n / 256) ++ [UInt8.ofNat (n % 256)]
theorem bs_length (k : Nat) : ∀ n, (bs k n).length = k := by
  induction k with
  | zero => intro n; rfl
  | succ k ih => intro n; simp [bs, ih]
theorem be_bs (k : Nat) : ∀ n, be (bs k n) = n % 256 ^ k := by
  induction k with
  | zero => intro n; simp [bs, be, Nat.mod_one]
  | succ k ih =>
    intro n
    rw [bs, be_snoc, ih, Nat.pow_succ]
    have h1 : (UInt8.ofNat (n % 256)).toNat = n % 256 := by simp
    rw [h1, Nat.mul_comm (256 ^ k) 256, Nat.mod_mul]
    omega
theorem bs_be (l : List UInt8) : bs l.length (be l) = l := by
  have key : ∀ (k : Nat) (l : List UInt8), l.length = k → bs k (be l) = l := by
    intro k
    induction k with
    | zero => intro l h; rw [List.eq_nil_of_length_eq_zero h]; rfl
    | succ k ih =>
      intro l h
      rcases List.eq_nil_or_concat l with rfl | ⟨l', x, rfl⟩
      · simp at h
      · simp only [List.concat_eq_append] at h ⊢
        have hx : x.toNat < 256 := UInt8.toNat_lt x
        rw [be_snoc, bs, show (be l' * 256 + x.toNat) / 256 = be l' by omega, show (be l' * 256 + x.toNat) % 256 = x.toNat by omega, ih l' (by simpa using h)]
        simp
  exact key _ l rfl
/-- a block that is known whole -/
def Blk (w : World) (g : Nat) (t : TypeId) (cs : Array Value) : Prop := w.heap[g]? = some (.cells cs t (0, 0))
section
variable {w w' : World} {g : Nat} {t : TypeId} {cs : Array Value}
theorem Blk.lt (h : Blk w g t cs) : g < w.heap.size := by
  rcases Nat.lt_or_ge g w.heap.size with h' | h'
  · exact h'
  · unfold Blk at h; rw [Array.getElem?_eq_none h'] at h; cases h
theorem Blk.cell (h : Blk w g t cs) (i : Nat) : w.cell? ⟨g, i, none⟩ = cs[i]? := cell_of_row w g i cs t (0, 0) h
theorem Blk.frozen (h : Blk w g t cs) (i : Nat) : w.frozen? ⟨g, i, none⟩ = false := by
  unfold Blk at h
  simp [World.frozen?, h]
theorem Blk.new (w : World) (t : TypeId) (cs : Array Value) : Blk (w.alloc (.cells cs t)) w.heap.size t cs := heap_alloc_new w _
theorem Blk.alloc (h : Blk w g t cs) (o : Obj) : Blk (w.alloc o) g t cs := (Below.heap_alloc w o g h.lt).trans h
theorem Blk.drewN (h : Blk w g t cs) (n : Nat) : Blk (w.drewN n) g t cs := h
theorem Blk.set (h : Blk w g t cs) (i : Nat) (u : Value) : Blk (w.setCell ⟨g, i, none⟩ u) g t (cs.setIfInBounds i u) := by
  unfold Blk at h ⊢
  simp [World.setCell, Array.getElem?_modify, h]
theorem Blk.far (h : Blk w g t cs) {p : Addr} (hp : g ≠ p.block) (u : Value) : Blk (w.setCell p u) g t cs := (Below.heap_setCell w p u g hp).trans h
theorem Blk.below {B : Nat} (h : Blk w g t cs) (hb : Below B w w') (hg : g < B) : Blk w' g t cs := (hb.block g hg).trans h
end
theorem Rd.far {w : World} {B : Nat} {A : Option Addr} {xs : List Value} (h : Rd w B A xs) {p : Addr} (hB : B ≤ p.block) (u : Value) : Rd (w.setCell p u) B A xs :=
  h.keep fun q hq => World.cell?_setCell_other w p q u (fun e => by subst e; omega)
/-- contracts of callees that only read, for a region that draws its order -/
theorem q_same {P : Program} {f : FuncId} {args : Array Value} {w : World} {n : Nat} {v : Value}
    (h : Calls P f args (w.drewN n) fun e w' => e = .returned v ∧ w.drewN n = w') : Calls P f args (w.drewN n) fun e w'' => e = .returned v ∧ ∃ m, w'' = w.drewN m :=
  h.mono fun _ _ ⟨he, hm⟩ => ⟨he, n, hm.symm⟩
theorem q_draws {P : Program} {f : FuncId} {args : Array Value} {w : World} {n : Nat} {v : Value}
    (h : Calls P f args (w.drewN n) fun e w' => e = .returned v ∧ ∃ m, w' = (w.drewN n).drewN m) : Calls P f args (w.drewN n) fun e w'' => e = .returned v ∧ ∃ m, w'' = w.drewN m :=
  h.mono fun _ _ ⟨he, m, hm⟩ => ⟨he, n + m, by rw [hm, World.drewN_drewN]⟩
theorem below_drewN {B : Nat} {a w : World} (h : Below B a w) (n : Nat) : Below B a (w.drewN n) := ⟨h.os, h.tape, h.output, h.size, h.block⟩
theorem below_of_drewN {B n : Nat} {w w' : World} (h : Below B (w.drewN n) w') : Below B w w' := ⟨h.os, h.tape, h.output, h.size, h.block⟩
theorem cell_lt {w : World} {a : Addr} {v : Value} (h : w.cell? a = some v) : a.block < w.heap.size := by
  rcases Nat.lt_or_ge a.block w.heap.size with h' | h'
  · exact h'
  · simp [World.cell?, Array.getElem?_eq_none h'] at h
theorem bnext {w w1 w2 : World} (h : Below w.heap.size w w1) (h2 : Below w1.heap.size w1 w2) : Below w.heap.size w w2 := h.trans (h2.mono h.size)
theorem bgrown {w w1 w2 : World} {g : Nat} (h : Below w.heap.size w w1) (h2 : w1.grownBy w2 (some g)) (hg : w.heap.size ≤ g) : Below w.heap.size w w2 :=
  h.grown h2 h.size (fun k e => by injection e with e; omega)
theorem balloc {w w1 : World} (h : Below w.heap.size w w1) (o : Obj) : Below w.heap.size w (w1.alloc o) := h.alloc h.size o
theorem u8_ofNat (m : Nat) : ((UInt8.ofNat m).toNat : Int) = (m : Int) % 256 := by simp
/-- what is owned reads as a list -/
theorem own_slice {w : World} {base : Nat} {e : TypeId} {v : Value} {l : List UInt8} {n : Nat} (hn : l.length = n) (h : w.ownsRow base e 1 v n (l.map b8)) :
    ∃ A c, v = .slice A l.length c ∧ l.length ≤ c ∧ c ≤ maxLen ∧ Rd w w.heap.size A (l.map b8) := by
  subst hn
  rcases h.2 with ⟨rfl, h0⟩ | ⟨g, cap, cur, rfl, hg, _, hc, hm, _⟩
  · obtain rfl : l = [] := List.eq_nil_of_length_eq_zero (by omega)
    exact ⟨none, 0, rfl, by simp, by simp [maxLen], Rd.nil⟩
  · exact ⟨_, _, rfl, hc, hm, Rd.of_own h⟩

open Go.ChangeShapes Go.WideShapes in
/-- an argument that is a slice of bytes -/
theorem open_bytes {H : Type} {enc : TypeId × Value → H} {P : Program} {w : World} {base b0 : Nat} {spare : Nat → Bool} {held : Bool} {r : Reach} {t e : TypeId} {v : Value} {d : DataW H} {p : List MemPlace}
    (ht : P.underlying t = some (.slice e)) (he : P.underlying e = some (.int .u8)) (hce : P.cellsOf e = 1)
    (hv : Value.okWide P w r b0 t v) (h : DataW.Trod enc P w base spare held t v d p) :
    ∃ A c, ∃ l : List UInt8, v = .slice A l.length c ∧ l.length ≤ c ∧ c ≤ maxLen ∧ Rd w w.heap.size A (l.map b8) := by
  obtain ⟨a, len, cap, rfl⟩ := okWide_slice ht hv
  obtain ⟨fuel, hf⟩ := h
  rcases open_ints ht he hce hf with ⟨hcs, _⟩ | ⟨x, l, c, zs, hcs, _, hl, hm, hz, _, hcell, hwz⟩
  · simp [Value.cells] at hcs
    obtain ⟨rfl, rfl, rfl⟩ := hcs
    exact ⟨none, 0, [], rfl, by simp, by simp [maxLen], Rd.nil⟩
  · simp [Value.cells] at hcs
    obtain ⟨rfl, rfl, rfl⟩ := hcs
    have hlen : ((zs.take len).map fun z => UInt8.ofNat z.toNat).length = len := by
      have : len ≤ zs.length := by have : zs.length = _ := hz; split at this <;> omega
      simp; omega
    refine ⟨_, cap, (zs.take len).map fun z => UInt8.ofNat z.toNat, by rw [hlen], by omega, hm, fun h0 => ?_⟩
    have hlz : len ≤ zs.length := by simp at hlen; omega
    have hpos : 0 < zs.length := by simp at h0; omega
    obtain ⟨b, off, rfl, hc⟩ := ints_at hcell hpos
    have hb := cell_lt (hc 0 hpos)
    refine ⟨b, off, rfl, hb, fun i u hu => ?_⟩
    have hi : i < len := by
      rcases Nat.lt_or_ge i len with h | h
      · exact h
      · rw [List.getElem?_eq_none (by simp; omega)] at hu; cases hu
    rw [hc i (by omega)]
    have hw := hwz (zs.getD i 0) (by simp [List.getD, List.getElem?_eq_getElem (show i < zs.length by omega)])
    have hbd := bounds_u8 hw
    simp only [List.map_map, List.getElem?_map, List.getElem?_take, if_pos hi, List.getElem?_eq_getElem (show i < zs.length by omega), Option.map_some] at hu
    injection hu with hu
    subst hu
    simp only [List.getD, List.getElem?_eq_getElem (show i < zs.length by omega), Option.getD_some] at hbd ⊢
    simp only [b8, Function.comp, u8_ofNat]
    congr 2
    omega

/-- worlds that are as this one was, but for new blocks -/
def Sub (w : World) : Type := { v : World // Below w.heap.size w v }
theorem Sub.le {w : World} (v : Sub w) : Below w.heap.size w v.1 := v.2
section
variable {P : Program} {w : World}
/-- a region that draws its order, whose operations read and whose callees may make memory, each with one answer: one walk in the order of the text -/
theorem region_sub {id : Nat} {Q : Exit → Act → World → Prop} {a : Act} {l : List Oper} (hm : P.follows .mixedOrders = true) (hB : Region.lexB .any l.toArray = true)
    (h : wpQuiet P l.toArray (fun w' => ∃ v : Sub w, w' = v.1) (fun a' => ∀ w', (∃ v : Sub w, w' = v.1) → Q .normal a' w') l a) : (Code.region id l.toArray true).wp P Q a w :=
  wp_region_quiet (C := fun w' => ∃ v : Sub w, w' = v.1) hm hB ⟨⟨{ w with drawn := w.drawn + 1 }, ⟨rfl, rfl, rfl, Nat.le_refl _, fun _ _ => rfl⟩⟩, rfl⟩ (by simpa using h)
theorem sub_same {f : FuncId} {args : Array Value} {v : Sub w} {r : Value} (h : Calls P f args v.1 fun e w' => e = .returned r ∧ v.1 = w') :
    Calls P f args v.1 fun e w'' => e = .returned r ∧ ∃ v' : Sub w, w'' = v'.1 := h.mono fun _ _ ⟨he, hm⟩ => ⟨he, v, hm.symm⟩
theorem sub_below {f : FuncId} {args : Array Value} {v : Sub w} {r : Value} (h : Calls P f args v.1 fun e w' => e = .returned r ∧ Below v.1.heap.size v.1 w') :
    Calls P f args v.1 fun e w'' => e = .returned r ∧ ∃ v' : Sub w, w'' = v'.1 := h.mono fun _ w' ⟨he, hm⟩ => ⟨he, ⟨w', bnext v.2 hm⟩, rfl⟩
theorem sub_draws {f : FuncId} {args : Array Value} {v : Sub w} {r : Value} (h : Calls P f args v.1 fun e w' => e = .returned r ∧ ∃ m, w' = v.1.drewN m) :
    Calls P f args v.1 fun e w'' => e = .returned r ∧ ∃ v' : Sub w, w'' = v'.1 := h.mono fun _ w' ⟨he, m, hm⟩ => ⟨he, ⟨w', by rw [hm]; exact below_drewN v.2 m⟩, rfl⟩
end
end Go.Proofs.YtlanfceilajifaaGreatDoor
/- More plain words on worlds. -/
namespace Go.Proofs.YtlanfceilajifaaGreatDoor
set_option linter.unusedVariables false
set_option linter.unusedSimpArgs false
open Go.RowKit
theorem own_below {w w' : World} {base : Nat} {e : TypeId} {size n : Nat} {v : Value} {xs : List Value} (h : w.ownsRow base e size v n xs) (hb : Below w.heap.size w w') : w'.ownsRow base e size v n xs :=
  h.kept (row := none) ⟨hb.os, hb.tape, hb.output, hb.size, fun k hk _ => hb.block k hk⟩ (by cases h : v.ownBlock <;> simp)
theorem below_only {w w' : World} {g : Nat} (h : Below w.heap.size w w') : w.grownBy w' (some g) := ⟨h.os, h.tape, h.output, h.size, fun k hk _ => h.block k hk⟩
open Go.ChangeShapes Go.WideShapes in
/-- an argument that is a slice of integers -/
theorem open_row {H : Type} {enc : TypeId × Value → H} {P : Program} {w : World} {base b0 : Nat} {spare : Nat → Bool} {held : Bool} {r : Reach} {t e : TypeId} {k : IntKind} {v : Value} {d : DataW H} {p : List MemPlace}
    (ht : P.underlying t = some (.slice e)) (he : P.underlying e = some (.int k)) (hce : P.cellsOf e = 1)
    (hv : Value.okWide P w r b0 t v) (h : DataW.Trod enc P w base spare held t v d p) :
    ∃ A c, ∃ zs : List Int, v = .slice A zs.length c ∧ zs.length ≤ c ∧ c ≤ maxLen ∧ Rd w w.heap.size A (zs.map (Value.int k)) ∧ ∀ z ∈ zs, (Lit.int k z).wf = true := by
  obtain ⟨a, len, cap, rfl⟩ := okWide_slice ht hv
  obtain ⟨fuel, hf⟩ := h
  rcases open_ints ht he hce hf with ⟨hcs, _⟩ | ⟨x, l, c, zs, hcs, _, hl, hm, hz, _, hcell, hwz⟩
  · simp [Value.cells] at hcs
    obtain ⟨rfl, rfl, rfl⟩ := hcs
    exact ⟨none, 0, [], rfl, by simp, by simp [maxLen], Rd.nil, by simp⟩
  · simp [Value.cells] at hcs
    obtain ⟨rfl, rfl, rfl⟩ := hcs
    have hlz : len ≤ zs.length := by have : zs.length = _ := hz; split at this <;> omega
    have hlen : (zs.take len).length = len := by simp; omega
    refine ⟨_, cap, zs.take len, by rw [hlen], by omega, hm, fun h0 => ?_, fun z hz => hwz z (List.mem_of_mem_take hz)⟩
    have hpos : 0 < zs.length := by simp at h0; omega
    obtain ⟨b, off, rfl, hc⟩ := ints_at hcell hpos
    have hb := cell_lt (hc 0 hpos)
    refine ⟨b, off, rfl, hb, fun i u hu => ?_⟩
    have hi : i < len := by
      rcases Nat.lt_or_ge i len with h | h
      · exact h
      · rw [List.getElem?_eq_none (by simp; omega)] at hu; cases hu
    rw [hc i (by omega)]
    simp only [List.getElem?_map, List.getElem?_take, if_pos hi, List.getElem?_eq_getElem (show i < zs.length by omega), Option.map_some] at hu
    injection hu with hu
    subst hu
    simp only [List.getD, List.getElem?_eq_getElem (show i < zs.length by omega), Option.getD_some]

/-- a list of numbers that are not below 0, as natural numbers -/
theorem nats_of {zs : List Int} (h : ∀ z ∈ zs, 0 ≤ z) : ∃ ns : List Nat, zs = ns.map (fun n : Nat => (n : Int)) := by
  induction zs with
  | nil => exact ⟨[], rfl⟩
  | cons z zs ih =>
    obtain ⟨ns, rfl⟩ := ih (fun y hy => h y (by simp [hy]))
    exact ⟨z.toNat :: ns, by have := h z (by simp); simp; omega⟩
open Go.ChangeShapes Go.WideShapes in
/-- an argument that is a slice of uint32 -/
theorem open_u32s {H : Type} {enc : TypeId × Value → H} {P : Program} {w : World} {base b0 : Nat} {spare : Nat → Bool} {held : Bool} {r : Reach} {t e : TypeId} {v : Value} {d : DataW H} {p : List MemPlace}
    (ht : P.underlying t = some (.slice e)) (he : P.underlying e = some (.int .u32)) (hce : P.cellsOf e = 1)
    (hv : Value.okWide P w r b0 t v) (h : DataW.Trod enc P w base spare held t v d p) :
    ∃ A c, ∃ ns : List Nat, v = .slice A ns.length c ∧ ns.length ≤ c ∧ c ≤ maxLen ∧ Rd w w.heap.size A (ns.map (fun n : Nat => Value.int .u32 (n : Int))) ∧ ∀ n ∈ ns, n < 4294967296 := by
  obtain ⟨A, c, zs, rfl, h1, h2, h3, h4⟩ := open_row ht he hce hv h
  obtain ⟨ns, rfl⟩ := nats_of (zs := zs) (fun z hz => (bounds_u32 (h4 z hz)).1)
  refine ⟨A, c, ns, by simp, by simpa using h1, h2, by simpa [Function.comp_def] using h3, fun n hn => ?_⟩
  have := bounds_u32 (h4 n (List.mem_map.2 ⟨n, hn, rfl⟩))
  omega
end Go.Proofs.YtlanfceilajifaaGreatDoor
/- num: an error's number. -/
namespace Go.Proofs.YtlanfceilajifaaGreatDoor
set_option linter.unusedVariables false
set_option linter.unusedSimpArgs false
open Go.RowKit
theorem num_any (n : Int) (w : World) :
    Calls Tryz.prog 13 #[.int .i64 n] w fun e w' => e = .returned (.int .i64 n) ∧ w = w' := by
  go_enter Tryz.func13, Tryz.ntmps13
  go_wp2
  go_ret; exact ⟨rfl, rfl⟩
end Go.Proofs.YtlanfceilajifaaGreatDoor
/- The library's math/bits at this dump, off the kit's shelf, in plain words (written by the kit's lay-plain tool, kept by name). -/
namespace Go.Proofs.YtlanfceilajifaaGreatDoor
set_option linter.unusedVariables false
set_option linter.unusedSimpArgs false
open Go.Shelf
def lays128_ren : Go.Shelf.Ren := ⟨fun | 128 => 154 | n => n, fun | 51 => 23 | 3 => 3 | 4 => 4 | 46 => 144 | 5 => 5 | 9 => 9 | n => n, fun | n => n⟩
theorem lays128 : Go.Proofs.Lays.n128 Tryz.prog lays128_ren := {
  mixed := by kernel_rfl
  f128 := Tryz.func154.trans (congrArg some (by kernel_rfl))
  t3 := Tryz.underlying3
  a3 := Tryz.isAgg3
  z3 := Tryz.sizeOf3
  v3 := Tryz.zeroValue3
  t4 := Tryz.underlying4
  a4 := Tryz.isAgg4
  z4 := Tryz.sizeOf4
  v4 := Tryz.zeroValue4
  t5 := Tryz.underlying5
  a5 := Tryz.isAgg5
  z5 := Tryz.sizeOf5
  v5 := Tryz.zeroValue5
  t9 := Tryz.underlying9
  a9 := Tryz.isAgg9
  z9 := Tryz.sizeOf9
  v9 := Tryz.zeroValue9
  t46 := Tryz.underlying144
  a46 := Tryz.isAgg144
  z46 := Tryz.sizeOf144
  v46 := Tryz.zeroValue144
  t51 := Tryz.underlying23
  a51 := Tryz.isAgg23
  z51 := Tryz.sizeOf23
  v51 := Tryz.zeroValue23 }
theorem bits_Len32 (x : Int) (w : World) (h0 : 0 ≤ x) (h1 : x ≤ 4294967295) :
    Calls Tryz.prog 154 #[.int .u32 x] w fun e w' => e = .returned (.int .i64 (Lib.bitLen x.toNat)) ∧ w' = w := Any.bits_Len32 lays128 x w h0 h1
def lays133_ren : Go.Shelf.Ren := ⟨fun | 133 => 150 | 128 => 154 | n => n, fun | 51 => 23 | 3 => 3 | 4 => 4 | 46 => 144 | 5 => 5 | 9 => 9 | n => n, fun | n => n⟩
theorem lays133 : Go.Proofs.Lays.n133 Tryz.prog lays133_ren := {
  mixed := by kernel_rfl
  f128 := Tryz.func154.trans (congrArg some (by kernel_rfl))
  f133 := Tryz.func150.trans (congrArg some (by kernel_rfl))
  t3 := Tryz.underlying3
  a3 := Tryz.isAgg3
  z3 := Tryz.sizeOf3
  v3 := Tryz.zeroValue3
  t4 := Tryz.underlying4
  a4 := Tryz.isAgg4
  z4 := Tryz.sizeOf4
  v4 := Tryz.zeroValue4
  t5 := Tryz.underlying5
  a5 := Tryz.isAgg5
  z5 := Tryz.sizeOf5
  v5 := Tryz.zeroValue5
  t9 := Tryz.underlying9
  a9 := Tryz.isAgg9
  z9 := Tryz.sizeOf9
  v9 := Tryz.zeroValue9
  t46 := Tryz.underlying144
  a46 := Tryz.isAgg144
  z46 := Tryz.sizeOf144
  v46 := Tryz.zeroValue144
  t51 := Tryz.underlying23
  a51 := Tryz.isAgg23
  z51 := Tryz.sizeOf23
  v51 := Tryz.zeroValue23 }
theorem bits_LeadingZeros32 (x : Int) (w : World) (h0 : 0 ≤ x) (h1 : x ≤ 4294967295) :
    Calls Tryz.prog 150 #[.int .u32 x] w fun e w' => e = .returned (.int .i64 (32 - (Lib.bitLen x.toNat : Int))) ∧ w' = w := Any.bits_LeadingZeros32 lays133 x w h0 h1
end Go.Proofs.YtlanfceilajifaaGreatDoor
namespace Go.Proofs.YtlanfceilajifaaGreatDoor
set_option linter.unusedVariables false
set_option linter.unusedSimpArgs false
open Go.RowKit

/-- the table of widths lies where the program laid it -/
def WidthsAt (w : World) : Prop :=
  w.cell? ⟨1, 0, none⟩ = some (.int .i64 1) ∧ w.cell? ⟨1, 1, none⟩ = some (.int .i64 2) ∧ w.cell? ⟨1, 2, none⟩ = some (.int .i64 4)

def isW (n : Int) : Bool := n == 1 || n == 2 || n == 4

set_option maxHeartbeats 400000 in
theorem isWidth_any (n : Int) (w : World) (hw : WidthsAt w) :
    Calls Tryz.prog 135 #[.int .i64 n] w fun e w' => e = .returned (.bool (isW n)) ∧ w = w' := by
  obtain ⟨h0, h1, h2⟩ := hw
  have i0 : ∀ w, (Instr.index 236 (.agg #[.int .i64 1, .int .i64 2, .int .i64 4]) (.int .i64 0)).run Tryz.prog w = .ok (.int .i64 1) w := fun _ => by kernel_rfl
  have i1 : ∀ w, (Instr.index 236 (.agg #[.int .i64 1, .int .i64 2, .int .i64 4]) (.int .i64 1)).run Tryz.prog w = .ok (.int .i64 2) w := fun _ => by kernel_rfl
  have i2 : ∀ w, (Instr.index 236 (.agg #[.int .i64 1, .int .i64 2, .int .i64 4]) (.int .i64 2)).run Tryz.prog w = .ok (.int .i64 4) w := fun _ => by kernel_rfl
  go_enter Tryz.func135, Tryz.ntmps135
  go_wp2
  go_rounds 4
  all_goals (go_ret; refine ⟨?_, rfl⟩; first | (simp_all [isW]; done) | (simp_all [isW]; omega))

set_option maxHeartbeats 400000 in
theorem right_any (n : Int) (w : World) :
    Calls Tryz.prog 153 #[.int .i64 n] w fun e w' => e = .returned (.bool (isW n)) ∧ w = w' := by
  by_cases h1 : n = 1
  · subst h1
    go_enter Tryz.func153, Tryz.ntmps153
    go_wp2
    go_ret; exact ⟨rfl, rfl⟩
  by_cases h2 : n = 2
  · subst h2
    go_enter Tryz.func153, Tryz.ntmps153
    go_wp2
    go_ret; exact ⟨rfl, rfl⟩
  have g1 : (n == 1) = false := by simpa using h1
  have g2 : (n == 2) = false := by simpa using h2
  go_enter Tryz.func153, Tryz.ntmps153
  go_wp2
  go_ret; exact ⟨by simp [isW, g1, g2], rfl⟩

set_option maxHeartbeats 400000 in
theorem folded_any (l : List UInt8) (A : Option Addr) (c B : Nat) (w : World) (h : Rd w B A (l.map b8)) (hl : l.length ≤ 4) :
    Calls Tryz.prog 137 #[.slice A l.length c] w fun e w' => e = .returned (.int .u32 (be l)) ∧ w = w' := by
  by_cases h0 : 0 < l.length
  · obtain ⟨b, off, rfl, _, hc⟩ := h (by simpa using h0)
    go_enter Tryz.func137, Tryz.ntmps137
    go_wp2
    go_loop [3, 8] (fun n i => ∃ k : Nat, k ≤ l.length ∧ i = .int .i64 k ∧ n = .int .u32 (be (l.take k))) (fun _ i => l.length - (intOf i).toNat)
    case atStart => exact ⟨0, Nat.zero_le _, rfl, rfl⟩
    case round =>
      obtain ⟨k, hk, rfl, rfl⟩ := hrel
      have hb := be_lt (l.take k)
      by_cases hlt : k < l.length
      · have HB := Lib.hid (be_take l k hlt)
        have hcell := hc k (b8 l[k]) (by simp [hlt])
        clear hc
        generalize be (l.take k) = m at *
        have hm : m < 16777216 := by
          have : 256 ^ (l.take k).length ≤ 256 ^ 3 := Nat.pow_le_pow_right (by omega) (by simp; omega)
          omega
        have hx : l[k].toNat < 256 := UInt8.toNat_lt _
        generalize l[k] = x at *
        unfold b8 at hcell
        clear hb
        go_wp2
        exact ⟨⟨k + 1, by omega, by go_num, by rw [or_u32 m _ hm hx, HB.out]⟩, by simp [intOf]; omega⟩
      · obtain rfl : k = l.length := by omega
        rw [List.take_length]
        clear hb
        go_wp2
        go_ret
        exact ⟨rfl, rfl⟩
  · obtain rfl : l = [] := List.eq_nil_of_length_eq_zero (by omega)
    go_enter Tryz.func137, Tryz.ntmps137
    go_wp2
    go_rounds 1
    go_ret
    exact ⟨rfl, rfl⟩

theorem has_any (A : Option Addr) (n c : Nat) (at_ many : Int) (w : World) (hn : n ≤ 9223372036854775807) (hm0 : 0 ≤ many) (hm : many ≤ 9223372036854775807) :
    Calls Tryz.prog 136 #[.slice A n c, .int .i64 at_, .int .i64 many] w fun e w' => e = .returned (.bool (decide (at_ ≤ n - many))) ∧ w = w' := by
  go_enter Tryz.func136, Tryz.ntmps136
  go_wp2
  go_ret
  exact ⟨rfl, rfl⟩

set_option maxHeartbeats 400000 in
theorem cut_any (A : Option Addr) (n c : Nat) (at_ many : Nat) (w : World) (hn : n ≤ c) (hc : c ≤ 9223372036854775807) (hm : at_ + many ≤ n) (h0 : 0 < many) :
    Calls Tryz.prog 138 #[.slice A n c, .int .i64 at_, .int .i64 many] w fun e w' => e = .returned (.slice (A.map (fun x => x.add at_)) many many) ∧ w = w' := by
  have g0 : ¬ at_ + many = at_ := by omega
  have g1 : ¬ many = 0 := by omega
  go_enter Tryz.func138, Tryz.ntmps138
  go_wp2
  go_ret
  exact ⟨by simp [Nat.add_sub_cancel_left], rfl⟩


theorem isW_cases {k : Int} (h : isW k = true) : k = 1 ∨ k = 2 ∨ k = 4 := by
  simp [isW] at h; omega

/-- split: the bytes, in a block of their own -/
def putW (w : World) (k n : Nat) : World := w.alloc (.cells ((bs k n).map b8).toArray 5)

/-- what Put answers: the bytes and the error -/
def putF (n : Nat) (k : Int) : List UInt8 × Int :=
  if isW k = false then ([], 2) else if n < 256 ^ k.toNat then (bs k.toNat n, 0) else ([], 4)

/-- a slice of bytes and an error are handed back; nothing that was there has changed -/
def GivesB (l : List UInt8) (err : Int) (w : World) (e : Ending) (w' : World) : Prop :=
  ∃ A c, e = .returned (.tuple #[.slice A l.length c, .int .i64 err]) ∧ l.length ≤ c ∧ c ≤ 9223372036854775807 ∧ Rd w' w'.heap.size A (l.map b8) ∧ Below w.heap.size w w'

theorem putW_below (w : World) (k n : Nat) : Below w.heap.size w (putW w k n) := (Below.refl _ _).alloc (Nat.le_refl _) _
theorem putW_size (w : World) (k n : Nat) : (putW w k n).heap.size = w.heap.size + 1 := by simp [putW]

theorem folded_len (l : List UInt8) (n : Nat) (hn : l.length = n) (A : Option Addr) (c B : Nat) (w : World) (h : Rd w B A (l.map b8)) (hl : n ≤ 4) :
    Calls Tryz.prog 137 #[.slice A n c] w fun e w' => e = .returned (.int .u32 (be l)) ∧ w = w' := by
  subst hn
  exact folded_any l A c B w h hl

/-- what Read answers: the number and the error -/
def rdF (l : List UInt8) (at_ k : Int) : Nat × Int :=
  if isW k = false then (0, 2) else if at_ < 0 then (0, 4) else if l.length - k < at_ then (0, 130) else (be ((l.drop at_.toNat).take k.toNat), 0)

/-- a number and an error are handed back; the world is as it was -/
def GivesN (p : Nat × Int) (w : World) (e : Ending) (w' : World) : Prop := e = .returned (.tuple #[.int .u32 p.1, .int .i64 p.2]) ∧ w = w'

set_option maxHeartbeats 1000000 in
theorem read_any (l : List UInt8) (n : Nat) (hn : l.length = n) (A : Option Addr) (c B : Nat) (w : World) (hw : WidthsAt w) (h : Rd w B A (l.map b8)) (hlc : n ≤ c) (hc : c ≤ 9223372036854775807) (at_ k : Int) :
    Calls Tryz.prog 111 #[.slice A n c, .int .i64 at_, .int .i64 k] w (GivesN (rdF l at_ k) w) := by
  by_cases hk : isW k = false
  · have hP := Lib.hid (show rdF l at_ k = (0, 2) by simp [rdF, hk])
    clear hn
    go_enter Tryz.func111, Tryz.ntmps111
    go_wp2_with fail
    refine scope_fwd 0 rfl ?_
    go_wp2_with (go_at_call 135; refine (isWidth_any _ _ hw).mono ?_; rintro e w' ⟨rfl, rfl⟩)
    go_step3
    refine ⟨rfl, ?_⟩
    go_wp2
    rw [Exit.noGoto_ret]
    go_ret2
    rw [hP.out]
    exact ⟨rfl, rfl⟩
  have hk' : isW k = true := by simpa using hk
  have hk1 := isW_cases hk'
  clear hk
  by_cases h0 : at_ < 0
  · have hP := Lib.hid (show rdF l at_ k = (0, 4) by simp [rdF, hk', h0])
    clear hn hk1
    go_enter Tryz.func111, Tryz.ntmps111
    go_wp2_with fail
    refine scope_fwd 0 rfl ?_
    go_wp2_with (go_at_call 135; refine (isWidth_any _ _ hw).mono ?_; rintro e w' ⟨rfl, rfl⟩)
    go_step3
    refine ⟨rfl, ?_⟩
    go_wp2
    rw [Exit.noGoto_ret]
    go_ret2
    rw [hP.out]
    exact ⟨rfl, rfl⟩
  by_cases h1 : (n : Int) - k < at_
  · have hP := Lib.hid (show rdF l at_ k = (0, 130) by simp [rdF, hk', h0, hn, h1])
    clear hn
    have hd : decide (at_ ≤ (n : Int) - k) = false := by simp; omega
    go_enter Tryz.func111, Tryz.ntmps111
    go_wp2_with fail
    refine scope_fwd 0 rfl ?_
    go_wp2_with (first
      | (go_at_call 135; refine (isWidth_any _ _ hw).mono ?_; rintro e w' ⟨rfl, rfl⟩)
      | (go_at_call 136; refine (has_any _ _ _ _ _ _ (by omega) (by omega) (by omega)).mono ?_; rintro e w' ⟨rfl, rfl⟩))
    go_step3
    refine ⟨rfl, ?_⟩
    go_wp2
    rw [Exit.noGoto_ret]
    go_ret2
    rw [hP.out]
    exact ⟨rfl, rfl⟩
  · have hP := Lib.hid (show rdF l at_ k = (be ((l.drop at_.toNat).take k.toNat), 0) by simp [rdF, hk', h0, hn, h1])
    have hd : decide (at_ ≤ (n : Int) - k) = true := by simp; omega
    obtain ⟨a, rfl⟩ : ∃ a : Nat, at_ = a := ⟨at_.toNat, by omega⟩
    obtain ⟨k, rfl⟩ : ∃ j : Nat, k = j := ⟨k.toNat, by omega⟩
    have hR := h.cut a k (by omega) (by simp; omega)
    rw [← List.map_drop, ← List.map_take] at hR
    simp only [Int.toNat_natCast] at hP
    have hl : ((l.drop a).take k).length = k := by simp; omega
    generalize (l.drop a).take k = l' at *
    have HL := Lib.hid hl
    clear hn hl
    go_enter Tryz.func111, Tryz.ntmps111
    go_wp2_with fail
    refine scope_fwd 0 rfl ?_
    go_wp2_with (first
      | (go_at_call 135; refine (isWidth_any _ _ hw).mono ?_; rintro e w' ⟨rfl, rfl⟩)
      | (go_at_call 136; refine (has_any _ _ _ _ _ _ (by omega) (by omega) (by omega)).mono ?_; rintro e w' ⟨rfl, rfl⟩)
      | (go_at_call 138; refine (cut_any _ _ _ _ _ _ (by omega) (by omega) (by omega) (by omega)).mono ?_; rintro e w' ⟨rfl, rfl⟩)
      | (go_at_call 137; refine (folded_len l' _ HL.out _ _ _ _ hR (by omega)).mono ?_; rintro e w' ⟨rfl, rfl⟩))
    rw [jump_ret]
    go_ret2
    rw [hP.out]
    exact ⟨rfl, rfl⟩

set_option maxHeartbeats 2000000 in
theorem refPut_any (n : Nat) (k : Int) (w : World) (hn : n < 4294967296) :
    Calls Tryz.prog 151 #[.int .u32 n, .int .i64 k] w (GivesB (putF n k).1 (putF n k).2 w) := by
  by_cases hk : isW k = false
  · have hP := Lib.hid (show putF n k = ([], 2) by simp [putF, hk])
    go_enter Tryz.func151, Tryz.ntmps151
    go_wp2_with (go_at_call 153; refine (right_any _ _).mono ?_; rintro e w' ⟨rfl, rfl⟩)
    go_ret2
    rw [hP.out]
    exact ⟨none, 0, rfl, by simp, by simp, Rd.nil, Below.refl _ _⟩
  have hk' : isW k = true := by simpa using hk
  clear hk
  rcases isW_cases hk' with rfl | rfl | rfl
  · have hmk : ∀ w, (Instr.makeSlice 25 (.int .i64 1) (.int .i64 1)).run Tryz.prog w = .ok (.slice (some ⟨w.heap.size, 0, none⟩) 1 1) (w.alloc (.cells #[.int .u8 0] 5)) := fun _ => by kernel_rfl
    by_cases hr : n < 256
    · have hP := Lib.hid (show putF n 1 = (bs 1 n, 0) by simp [putF, hk', hr])
      go_enter Tryz.func151, Tryz.ntmps151
      go_wp2_with (go_at_call 153; refine (right_any _ _).mono ?_; rintro e w' ⟨rfl, rfl⟩)
      refine wp_loop_rounds 2 ?_
      rw [rounds_succ]; go_wp2
      rw [rounds_succ]; go_wp2
      go_ret2
      rw [hP.out]
      refine ⟨_, _, by rw [bs_length]; rfl, by simp [bs_length], by simp, ?_, (Below.refl _ _).alloc (Nat.le_refl _) _⟩
      have hR := (Rd.new w 5 ((bs 1 n).map b8))
      simp [bs, b8] at hR ⊢
      exact hR
    · have hP := Lib.hid (show putF n 1 = ([], 4) by simp [putF, hk', hr])
      have hr2 : 256 ≤ n := by omega
      go_enter Tryz.func151, Tryz.ntmps151
      go_wp2_with (go_at_call 153; refine (right_any _ _).mono ?_; rintro e w' ⟨rfl, rfl⟩)
      refine wp_loop_rounds 2 ?_
      rw [rounds_succ]; go_wp2
      rw [rounds_succ]; go_wp2
      go_ret2
      rw [hP.out]
      exact ⟨none, 0, rfl, by simp, by simp, Rd.nil, (Below.refl _ _).alloc (Nat.le_refl _) _⟩
  · have hmk : ∀ w, (Instr.makeSlice 25 (.int .i64 2) (.int .i64 2)).run Tryz.prog w = .ok (.slice (some ⟨w.heap.size, 0, none⟩) 2 2) (w.alloc (.cells #[.int .u8 0, .int .u8 0] 5)) := fun _ => by kernel_rfl
    by_cases hr : n < 65536
    · have hP := Lib.hid (show putF n 2 = (bs 2 n, 0) by simp [putF, hk', hr])
      go_enter Tryz.func151, Tryz.ntmps151
      go_wp2_with (go_at_call 153; refine (right_any _ _).mono ?_; rintro e w' ⟨rfl, rfl⟩)
      refine wp_loop_rounds 3 ?_
      rw [rounds_succ]; go_wp2
      rw [rounds_succ]; go_wp2
      rw [rounds_succ]; go_wp2
      go_ret2
      rw [hP.out]
      refine ⟨_, _, by rw [bs_length]; rfl, by simp [bs_length], by simp, ?_, (Below.refl _ _).alloc (Nat.le_refl _) _⟩
      have hR := (Rd.new w 5 ((bs 2 n).map b8))
      simp [bs, b8] at hR ⊢
      exact hR
    · have hP := Lib.hid (show putF n 2 = ([], 4) by simp [putF, hk', hr])
      have hr2 : 65536 ≤ n := by omega
      go_enter Tryz.func151, Tryz.ntmps151
      go_wp2_with (go_at_call 153; refine (right_any _ _).mono ?_; rintro e w' ⟨rfl, rfl⟩)
      refine wp_loop_rounds 3 ?_
      rw [rounds_succ]; go_wp2
      rw [rounds_succ]; go_wp2
      rw [rounds_succ]; go_wp2
      go_ret2
      rw [hP.out]
      exact ⟨none, 0, rfl, by simp, by simp, Rd.nil, (Below.refl _ _).alloc (Nat.le_refl _) _⟩
  · have hmk : ∀ w, (Instr.makeSlice 25 (.int .i64 4) (.int .i64 4)).run Tryz.prog w = .ok (.slice (some ⟨w.heap.size, 0, none⟩) 4 4) (w.alloc (.cells #[.int .u8 0, .int .u8 0, .int .u8 0, .int .u8 0] 5)) := fun _ => by kernel_rfl
    by_cases hr : n < 4294967296
    · have hP := Lib.hid (show putF n 4 = (bs 4 n, 0) by simp [putF, hk', hr])
      go_enter Tryz.func151, Tryz.ntmps151
      go_wp2_with (go_at_call 153; refine (right_any _ _).mono ?_; rintro e w' ⟨rfl, rfl⟩)
      refine wp_loop_rounds 5 ?_
      rw [rounds_succ]; go_wp2
      rw [rounds_succ]; go_wp2
      rw [rounds_succ]; go_wp2
      rw [rounds_succ]; go_wp2
      rw [rounds_succ]; go_wp2
      go_ret2
      rw [hP.out]
      refine ⟨_, _, by rw [bs_length]; rfl, by simp [bs_length], by simp, ?_, (Below.refl _ _).alloc (Nat.le_refl _) _⟩
      have hR := (Rd.new w 5 ((bs 4 n).map b8))
      simp [bs, b8] at hR ⊢
      exact hR
    · exact absurd hn hr

set_option maxHeartbeats 1000000 in
theorem refRead_any (l : List UInt8) (n : Nat) (hn : l.length = n) (A : Option Addr) (c B : Nat) (w : World) (h : Rd w B A (l.map b8)) (hlc : n ≤ c) (hc : c ≤ 9223372036854775807) (at_ k : Int) :
    Calls Tryz.prog 143 #[.slice A n c, .int .i64 at_, .int .i64 k] w (GivesN (rdF l at_ k) w) := by
  by_cases hk : isW k = false
  · have hP := Lib.hid (show rdF l at_ k = (0, 2) by simp [rdF, hk])
    clear hn
    go_enter Tryz.func143, Tryz.ntmps143
    go_wp2_with (go_at_call 153; refine (right_any _ _).mono ?_; rintro e w' ⟨rfl, rfl⟩)
    go_ret2
    rw [hP.out]
    exact ⟨rfl, rfl⟩
  have hk' : isW k = true := by simpa using hk
  have hk1 := isW_cases hk'
  clear hk
  by_cases h0 : at_ < 0
  · have hP := Lib.hid (show rdF l at_ k = (0, 4) by simp [rdF, hk', h0])
    clear hn hk1
    go_enter Tryz.func143, Tryz.ntmps143
    go_wp2_with (go_at_call 153; refine (right_any _ _).mono ?_; rintro e w' ⟨rfl, rfl⟩)
    go_ret2
    rw [hP.out]
    exact ⟨rfl, rfl⟩
  by_cases h1 : (n : Int) - k < at_
  · have hP := Lib.hid (show rdF l at_ k = (0, 130) by simp [rdF, hk', h0, hn, h1])
    clear hn
    by_cases h2 : (n : Int) < at_
    all_goals
      have h3 : (n : Int) - at_ < k := by omega
      go_enter Tryz.func143, Tryz.ntmps143
      go_wp2_with (go_at_call 153; refine (right_any _ _).mono ?_; rintro e w' ⟨rfl, rfl⟩)
      go_ret2
      rw [hP.out]
      exact ⟨rfl, rfl⟩
  · have hP := Lib.hid (show rdF l at_ k = (be ((l.drop at_.toNat).take k.toNat), 0) by simp [rdF, hk', h0, hn, h1])
    have h2 : ¬ (n : Int) < at_ := by omega
    have h3 : ¬ (n : Int) - at_ < k := by omega
    obtain ⟨a, rfl⟩ : ∃ a : Nat, at_ = a := ⟨at_.toNat, by omega⟩
    obtain ⟨k, rfl⟩ : ∃ j : Nat, k = j := ⟨k.toNat, by omega⟩
    obtain ⟨b, off, rfl, _, hcell⟩ := h (by simp; omega)
    have hcl : ∀ i (hi : i < k), ∃ x, ((l.drop a).take k)[i]? = some x ∧ w.cell? ⟨b, off + (a + i), none⟩ = some (b8 x) := fun i hi =>
      ⟨l[a + i]'(by omega), by rw [List.getElem?_take, if_pos hi, List.getElem?_drop]; exact List.getElem?_eq_getElem (by omega), hcell (a + i) _ (by rw [List.getElem?_map, List.getElem?_eq_getElem (by omega)]; rfl)⟩
    simp only [Int.toNat_natCast] at hP
    have hl : ((l.drop a).take k).length = k := by simp; omega
    generalize (l.drop a).take k = l' at *
    have HL := Lib.hid hl
    have HC := Lib.hid hcl
    clear hn hl hcell hcl h
    go_enter Tryz.func143, Tryz.ntmps143
    go_wp2_with (go_at_call 153; refine (right_any _ _).mono ?_; rintro e w' ⟨rfl, rfl⟩)
    go_loop [8, 9] (fun v i => ∃ j : Nat, j ≤ k ∧ i = .int .i64 j ∧ v = .int .u32 (be (l'.take j))) (fun _ i => k - (intOf i).toNat)
    case atStart => exact ⟨0, Nat.zero_le _, rfl, rfl⟩
    case round =>
      obtain ⟨j, hj, rfl, rfl⟩ := hrel
      have hb := be_lt (l'.take j)
      by_cases hlt : j < k
      · obtain ⟨x, hx, hcell⟩ := HC.out j hlt
        have hlj : j < l'.length := by have := HL.out; omega
        have hx' : l'[j] = x := by rw [List.getElem?_eq_getElem hlj] at hx; injection hx
        have HB := Lib.hid (hx' ▸ be_take l' j hlj)
        clear hx hx'
        have hm : be (l'.take j) < 16777216 := by
          have : 256 ^ (l'.take j).length ≤ 256 ^ 3 := Nat.pow_le_pow_right (by omega) (by simp; omega)
          omega
        generalize be (l'.take j) = m at *
        have hx : x.toNat < 256 := UInt8.toNat_lt _
        unfold b8 at hcell
        clear hb hlj
        go_wp2
        exact ⟨⟨j + 1, by omega, by go_num, by rw [HB.out]; go_num⟩, by simp [intOf]; omega⟩
      · obtain rfl : j = l'.length := by have := HL.out; omega
        rw [List.take_length]
        clear hb
        go_wp2
        go_ret2
        rw [hP.out]
        exact ⟨rfl, rfl⟩
end Go.Proofs.YtlanfceilajifaaGreatDoor
/- The readers of octet: each method's contract. -/
namespace Go.Proofs.YtlanfceilajifaaGreatDoor
set_option linter.unusedVariables false
set_option linter.unusedSimpArgs false
open Go.RowKit

theorem u8_info : (Tryz.prog.info? 5).map (fun i => (i.zero, i.size, i.bytes)) = some (some (.int .u8 0), 1, 1) := by kernel_rfl

/-- a slice of bytes is handed back in memory of the call's own -/
def GivesS (l : List UInt8) (w : World) (e : Ending) (w' : World) : Prop :=
  ∃ A c, e = .returned (.slice A l.length c) ∧ l.length ≤ c ∧ c ≤ maxLen ∧ Rd w' w'.heap.size A (l.map b8) ∧ Below w.heap.size w w' ∧ (∀ a, A = some a → w.heap.size ≤ a.block)

/-- what is owned reads as a list, and lies in memory of the call's own -/
theorem own_gives {w w1 : World} {e : TypeId} {v : Value} {l : List UInt8} {n : Nat} (hn : l.length = n) (h : w1.ownsRow w.heap.size e 1 v n (l.map b8)) (hb : Below w.heap.size w w1) : GivesS l w (.returned v) w1 := by
  subst hn
  rcases h.2 with ⟨rfl, h0⟩ | ⟨g, cap, cur, rfl, hg, _, hc, hm, _⟩
  · obtain rfl : l = [] := List.eq_nil_of_length_eq_zero (by omega)
    exact ⟨none, 0, rfl, by simp, by simp [maxLen], Rd.nil, hb, by simp⟩
  · exact ⟨_, _, rfl, hc, hm, Rd.of_own h, hb, by simp; exact hg⟩

set_option maxHeartbeats 400000 in
theorem clone_any (l : List UInt8) (n : Nat) (hn : l.length = n) (A : Option Addr) (c B : Nat) (w : World) (h : Rd w B A (l.map b8)) (hl : n ≤ 1048576) (hB : B ≤ w.heap.size) :
    Calls Tryz.prog 112 #[.slice A n c] w (GivesS l w) := by
  obtain ⟨i0, hi0, hz0, hz1, hz2⟩ := info_parts u8_info
  have HN := Lib.hid hn
  clear hn
  have hnil := fun w => Lib.run_eql_slice_nil (P := Tryz.prog) w 25 5 A n c 0 0 Tryz.underlying25
  cases A with
  | none =>
    have h0 : l = [] := by
      rcases Nat.eq_zero_or_pos (l.map b8).length with h0 | h0
      · exact List.eq_nil_of_length_eq_zero (by simpa using h0)
      · obtain ⟨_, _, hA, _⟩ := h h0; cases hA
    subst h0
    go_enter Tryz.func112, Tryz.ntmps112
    go_wp2
    go_ret
    exact ⟨none, 0, rfl, by simp, by simp, Rd.nil, Below.refl _ _, by simp⟩
  | some a =>
    go_enter Tryz.func112, Tryz.ntmps112
    go_wp2_with (at_builtin; refine wpList_append_rd rfl (.tmp 5) (.tmp 6) _ rfl w.heap.size 5 i0 _ 1 1 Tryz.underlying25 hi0 hz0 hz1 hz2 rfl (by omega) (.slice (some ⟨w.heap.size, 0, none⟩) 0 0) 0 [] rfl (World.ownsRow_lit w #[] 0 (Nat.le_refl _) (by simp [maxLen]) (by simp)) n c (l.map b8) rfl (by rw [List.length_map, HN.out]; omega) (h.alloc hB _) (b8_one l) (by simp only [maxLen]; omega) (by omega) (by simp) ?_; intro v1 w1 ho1 hg1 ha1)
    go_ret
    refine own_gives HN.out (by simpa using ho1) (((Below.refl _ _).alloc (Nat.le_refl _) _).grown hg1 (by simp) (by simp [Value.ownBlock]))

/-- a reader: a block of three fields; its bytes lie in memory ahead of it -/
def IsRdr (w : World) (g : Nat) (l : List UInt8) (at_ : Nat) : Prop :=
  ∃ A c, Blk w g 238 #[.slice A l.length c, .int .i64 at_, .bool true] ∧ Rd w g A (l.map b8) ∧ l.length ≤ c ∧ c ≤ maxLen ∧ at_ ≤ l.length

set_option maxHeartbeats 400000 in
theorem new_any (l : List UInt8) (n : Nat) (hn : l.length = n) (A : Option Addr) (c B : Nat) (w : World) (h : Rd w B A (l.map b8)) (hl : n ≤ 1048576) (hB : B ≤ w.heap.size) :
    Calls Tryz.prog 140 #[.slice A n c] w fun e w' => ∃ g, e = .returned (.pointer (some ⟨g, 0, none⟩)) ∧ IsRdr w' g l 0 ∧ w.heap.size ≤ g ∧ Below w.heap.size w w' := by
  have HN := Lib.hid hn
  clear hn
  go_enter Tryz.func140, Tryz.ntmps140
  go_wp2_with (go_at_call 112; refine (clone_any l _ HN.out _ _ _ _ h hl hB).mono ?_; rintro e w1 ⟨A1, c1, rfl, hc1, hm1, hr1, hb1, _⟩)
  go_ret
  exact ⟨_, rfl, ⟨A1, c1, Blk.new _ _ _, hr1.alloc (Nat.le_refl _) _, hc1, hm1, by omega⟩, hb1.size, hb1.alloc hb1.size _⟩

set_option maxHeartbeats 400000 in
theorem none_nil (w : World) :
    Calls Tryz.prog 152 #[.pointer none] w fun e w' => e = .returned (.bool true) ∧ w = w' := by
  go_enter Tryz.func152, Tryz.ntmps152
  go_wp2
  go_ret
  exact ⟨rfl, rfl⟩

set_option maxHeartbeats 400000 in
theorem none_some (g : Nat) (w : World) (h2 : w.cell? ⟨g, 2, none⟩ = some (.bool true)) :
    Calls Tryz.prog 152 #[.pointer (some ⟨g, 0, none⟩)] w fun e w' => e = .returned (.bool false) ∧ w = w' := by
  go_enter Tryz.func152, Tryz.ntmps152
  go_wp2
  go_ret
  exact ⟨rfl, rfl⟩

theorem take_nil (k : Int) (w : World) : Calls Tryz.prog 142 #[.pointer none, .int .i64 k] w fun e w' => e = .returned (.tuple #[.int .u32 0, .int .i64 1]) ∧ w = w' := by
  go_enter Tryz.func142, Tryz.ntmps142
  go_wp2_with fail
  refine scope_fwd 0 rfl ?_
  go_wp2_with (go_at_call 152; refine (none_nil _).mono ?_; rintro e w' ⟨rfl, rfl⟩)
  go_step3
  refine ⟨rfl, ?_⟩
  go_wp2
  rw [Exit.noGoto_ret]
  go_ret2
  exact ⟨rfl, rfl⟩

theorem WidthsAt.drewN {w : World} (h : WidthsAt w) (n : Nat) : WidthsAt (w.drewN n) := h

/-- what a call did to a reader: only its own block may have changed -/
def Moved (w w' : World) (g : Nat) (l : List UInt8) (p : Nat) : Prop := IsRdr w' g l p ∧ w.grownBy w' (some g)

theorem rdF_cases (l : List UInt8) (p : Nat) (k : Int) : (rdF l p k).2 = 0 ∨ ((rdF l p k).2 ≠ 0 ∧ (rdF l p k).1 = 0) := by
  unfold rdF; split <;> (try split) <;> (try split) <;> simp
theorem rdF_ok (l : List UInt8) (p : Nat) (k : Int) (h : (rdF l p k).2 = 0) : isW k = true ∧ 0 ≤ k ∧ p + k.toNat ≤ l.length := by
  unfold rdF at h
  by_cases h1 : isW k = false
  · simp [h1] at h
  · have h2 : isW k = true := by simpa using h1
    have h3 := isW_cases h2
    have h4 : ¬ (p : Int) < 0 := by omega
    rw [if_neg h1, if_neg h4] at h
    by_cases h5 : (l.length : Int) - k < p
    · rw [if_pos h5] at h; simp at h
    · exact ⟨h2, by omega, by omega⟩

/-- where a reader stands behind Take -/
def tookP (l : List UInt8) (p : Nat) (k : Int) : Nat := if (rdF l p k).2 = 0 then p + k.toNat else p

theorem rdr_moved {w w' : World} {g : Nat} {l : List UInt8} {p q : Nat} {n : Nat} (h : IsRdr w g l p) (hq : q ≤ l.length) (e : w' = (w.drewN n).setCell ⟨g, 1, none⟩ (.int .i64 q)) : Moved w w' g l q := by
  subst e
  obtain ⟨A, c, hb, hr, hlc, hcm, hp⟩ := h
  refine ⟨⟨A, c, ?_, ?_, hlc, hcm, hq⟩, ?_⟩
  · have := (hb.drewN n).set 1 (.int .i64 q)
    simpa using this
  · exact (hr.drewN n).far (p := ⟨g, 1, none⟩) (Nat.le_refl _) _
  · exact ⟨rfl, rfl, rfl, by simp [World.setCell, World.drewN], fun k _ hne => Below.heap_setCell (w.drewN n) _ _ k (by intro e; apply hne; rw [e])⟩
theorem rdr_still {w w' : World} {g : Nat} {l : List UInt8} {p : Nat} {n : Nat} (h : IsRdr w g l p) (e : w' = w.drewN n) : Moved w w' g l p := by
  subst e
  exact ⟨h, ⟨rfl, rfl, rfl, Nat.le_refl _, fun _ _ _ => rfl⟩⟩

set_option maxHeartbeats 400000 in
theorem take_some (g : Nat) (k : Int) (w : World) (l : List UInt8) (p : Nat) (h : IsRdr w g l p) (hw : WidthsAt w) :
    Calls Tryz.prog 142 #[.pointer (some ⟨g, 0, none⟩), .int .i64 k] w fun e w' => e = .returned (.tuple #[.int .u32 (rdF l p k).1, .int .i64 (rdF l p k).2]) ∧ Moved w w' g l (tookP l p k) := by
  have HR := Lib.hid h
  obtain ⟨A, c, hb, hr, hlc, hcm, hp⟩ := h
  unfold maxLen at hcm
  have h0 := hb.cell 0
  have h1 := hb.cell 1
  have h2 := hb.cell 2
  have hf := hb.frozen 1
  simp at h0 h1 h2
  have HT := Lib.hid (show tookP l p k = if (rdF l p k).2 = 0 then p + k.toNat else p from rfl)
  have HK := rdF_ok l p k
  rcases rdF_cases l p k with he | ⟨he, hv⟩
  · obtain ⟨hk1, hk2, hk3⟩ := HK he
    have HE := Lib.hid he
    have hrd := fun W hW hR => read_any l l.length rfl A c g W hW hR hlc (by omega) p k
    generalize rdF l p k = r at *
    obtain ⟨v, er⟩ := r
    simp only at he HE
    subst he
    have HD := Lib.hid hrd
    clear hrd HK hb
    go_enter Tryz.func142, Tryz.ntmps142
    go_wp2_with fail
    refine scope_fwd 0 rfl ?_
    go_wp2_with (go_at_call 152; refine (none_some _ _ h2).mono ?_; rintro e w' ⟨rfl, rfl⟩)
    go_quiet ((go_at_call 111; exact q_same (HD.out _ (hw.drewN _) (hr.drewN _))))
    go_wp2
    rw [jump_ret]
    go_ret2
    refine ⟨rfl, ?_⟩
    rw [HT.out, if_pos trivial]
    exact rdr_moved HR.out hk3 (by rw [show ((p + k.toNat : Nat) : Int) = p + k by omega])
  · have hrd := fun W hW hR => read_any l l.length rfl A c g W hW hR hlc (by omega) p k
    generalize rdF l p k = r at *
    obtain ⟨v, er⟩ := r
    simp only at he hv
    subst hv
    have he2 : (er != 0) = true := by simpa using he
    have HE := Lib.hid he
    have HD := Lib.hid hrd
    clear hrd HK hb he
    go_enter Tryz.func142, Tryz.ntmps142
    go_wp2_with fail
    refine scope_fwd 0 rfl ?_
    go_wp2_with (go_at_call 152; refine (none_some _ _ h2).mono ?_; rintro e w' ⟨rfl, rfl⟩)
    go_quiet ((go_at_call 111; exact q_same (HD.out _ (hw.drewN _) (hr.drewN _))))
    go_wp2
    go_step3
    refine ⟨rfl, ?_⟩
    go_wp2
    rw [Exit.noGoto_ret]
    go_ret2
    refine ⟨rfl, ?_⟩
    rw [HT.out, if_neg HE.out]
    exact rdr_still HR.out rfl

/-- what Skip answers, and where the reader stands then -/
def skF (l : List UInt8) (p : Nat) (k : Int) : Nat × Int := if k < 0 then (p, 4) else if (l.length : Int) - p < k then (p, 130) else (p + k.toNat, 0)

/-- where a part of a row begins -/
def cutA (A : Option Addr) (p m : Nat) : Option Addr := if m = 0 then A else A.map (fun x => x.add p)
/-- any part of a row, the empty one too -/
theorem cut0_any (A : Option Addr) (n c : Nat) (p m : Nat) (w : World) (hn : n ≤ c) (hc : c ≤ 9223372036854775807) (hm : p + m ≤ n) :
    Calls Tryz.prog 138 #[.slice A n c, .int .i64 p, .int .i64 m] w fun e w' => e = .returned (.slice (cutA A p m) m m) ∧ w = w' := by
  by_cases h0 : m = 0
  · subst h0
    go_enter Tryz.func138, Tryz.ntmps138
    go_wp2
    all_goals go_ret
    all_goals exact ⟨by simp [cutA], rfl⟩
  · unfold cutA
    rw [if_neg h0]
    exact cut_any A n c p m w hn hc hm (by omega)

theorem WidthsAt.below {w w' : World} (h : WidthsAt w) (hb : Below w.heap.size w w') : WidthsAt w' := by
  obtain ⟨h0, h1, h2⟩ := h
  exact ⟨(hb.cell (cell_lt h0)).trans h0, (hb.cell (cell_lt h1)).trans h1, (hb.cell (cell_lt h2)).trans h2⟩
end Go.Proofs.YtlanfceilajifaaGreatDoor
/- addr.Kind and the reference's: what each answers. -/
namespace Go.Proofs.YtlanfceilajifaaGreatDoor
set_option linter.unusedVariables false
set_option linter.unusedSimpArgs false
open Go.RowKit
set_option maxRecDepth 100000

/-- the kind of an address, by its highest byte -/
def kindF (a : Nat) : Nat :=
  if a = 0 then 1 else if a / 16777216 = 0 then 2 else if a / 16777216 = 127 then 3 else if 224 ≤ a / 16777216 ∧ a / 16777216 ≤ 239 then 4 else if 240 ≤ a / 16777216 then 5 else 6

/-- the block in which Parts lays its answer -/
def partsO (a : Nat) : Obj := .cells #[.int .u8 ((a : Int) / 16777216), .int .u8 ((a : Int) / 65536 % 256), .int .u8 ((a : Int) / 256 % 256), .int .u8 ((a : Int) % 256)] 217

set_option maxHeartbeats 1000000 in
theorem parts_any (a : Nat) (w : World) (ha : a < 4294967296) :
    Calls Tryz.prog 121 #[.int .u32 a] w fun e w' => e = .returned (.agg #[.int .u8 ((a : Int) / 16777216), .int .u8 ((a : Int) / 65536 % 256), .int .u8 ((a : Int) / 256 % 256), .int .u8 ((a : Int) % 256)]) ∧ w' = w.alloc (partsO a) := by
  go_enter Tryz.func121, Tryz.ntmps121
  go_wp2
  go_returns
  exact ⟨rfl, rfl⟩

theorem first_any (a : Nat) (w : World) (ha : a < 4294967296) :
    Calls Tryz.prog 120 #[.int .u32 a] w fun e w' => e = .returned (.int .u8 ((a : Int) / 16777216)) ∧ w' = w.alloc (partsO a) := by
  have i0 : ∀ (w : World) (x0 x1 x2 x3 : Value), (Instr.index 217 (.agg #[x0, x1, x2, x3]) (.int .i64 0)).run Tryz.prog w = .ok x0 w := fun _ _ _ _ _ => by kernel_rfl
  go_enter Tryz.func120, Tryz.ntmps120
  go_wp2_with (go_at_call 121; refine (parts_any a _ ha).mono ?_; rintro e w' ⟨rfl, rfl⟩)
  go_ret
  exact ⟨rfl, rfl⟩

theorem rule2_any (a : Nat) (w : World) :
    Calls Tryz.prog 122 #[.int .u32 a] w fun e w' => e = .returned (.bool ((a : Int) == 0)) ∧ w = w' := by
  go_enter Tryz.func122, Tryz.ntmps122
  go_wp2
  go_ret
  exact ⟨rfl, rfl⟩
theorem rule3_any (a : Nat) (g : Addr) (w : World) (ha : a < 4294967296) (hg : w.cell? g = some (.func (.func 120) #[] #[])) :
    Calls Tryz.prog 123 #[.int .u32 a, .pointer (some g)] w fun e w' => e = .returned (.bool ((a : Int) / 16777216 == 0)) ∧ w' = w.alloc (partsO a) := by
  go_enter Tryz.func123, Tryz.ntmps123
  go_wp2_with (go_at_call 120; refine (first_any a _ ha).mono ?_; rintro e w' ⟨rfl, rfl⟩)
  go_ret
  exact ⟨rfl, rfl⟩
theorem rule4_any (a : Nat) (g : Addr) (w : World) (ha : a < 4294967296) (hg : w.cell? g = some (.func (.func 120) #[] #[])) :
    Calls Tryz.prog 124 #[.int .u32 a, .pointer (some g)] w fun e w' => e = .returned (.bool ((a : Int) / 16777216 == 127)) ∧ w' = w.alloc (partsO a) := by
  go_enter Tryz.func124, Tryz.ntmps124
  go_wp2_with (go_at_call 120; refine (first_any a _ ha).mono ?_; rintro e w' ⟨rfl, rfl⟩)
  go_ret
  exact ⟨rfl, rfl⟩
theorem rule5_any (a : Nat) (g : Addr) (w : World) (ha : a < 4294967296) (hg : w.cell? g = some (.func (.func 120) #[] #[])) :
    Calls Tryz.prog 125 #[.int .u32 a, .pointer (some g)] w fun e w' => e = .returned (.bool (decide (224 ≤ a / 16777216 ∧ a / 16777216 ≤ 239))) ∧ Below w.heap.size w w' := by
  have hg2 : (w.alloc (partsO a)).cell? g = some (.func (.func 120) #[] #[]) := by rw [World.cell?_alloc_lt _ _ _ (cell_lt hg)]; exact hg
  by_cases h : 224 ≤ (a : Int) / 16777216
  · go_enter Tryz.func125, Tryz.ntmps125
    go_wp2_with (go_at_call 120; refine (first_any a _ ha).mono ?_; rintro e w' ⟨rfl, rfl⟩)
    go_ret
    refine ⟨?_, ((Below.refl _ _).alloc (Nat.le_refl _) _).alloc (by simp) _⟩
    have : 224 ≤ a / 16777216 := by omega
    simp [this]
    omega
  · go_enter Tryz.func125, Tryz.ntmps125
    go_wp2_with (go_at_call 120; refine (first_any a _ ha).mono ?_; rintro e w' ⟨rfl, rfl⟩)
    go_ret
    refine ⟨?_, (Below.refl _ _).alloc (Nat.le_refl _) _⟩
    have : ¬ 224 ≤ a / 16777216 := by omega
    simp [this]
theorem rule6_any (a : Nat) (g : Addr) (w : World) (ha : a < 4294967296) (hg : w.cell? g = some (.func (.func 120) #[] #[])) :
    Calls Tryz.prog 126 #[.int .u32 a, .pointer (some g)] w fun e w' => e = .returned (.bool (decide (240 ≤ (a : Int) / 16777216))) ∧ w' = w.alloc (partsO a) := by
  go_enter Tryz.func126, Tryz.ntmps126
  go_wp2_with (go_at_call 120; refine (first_any a _ ha).mono ?_; rintro e w' ⟨rfl, rfl⟩)
  go_ret
  exact ⟨rfl, rfl⟩
theorem rule7_any (a : Nat) (w : World) :
    Calls Tryz.prog 127 #[.int .u32 a] w fun e w' => e = .returned (.bool true) ∧ w = w' := by
  go_enter Tryz.func127, Tryz.ntmps127
  go_wp2
  go_ret
  exact ⟨rfl, rfl⟩

/-- the rules in memory -/
def rulesO (g : Nat) : Obj := .cells #[.int .i64 1, .func (.func 122) #[] #[], .int .i64 2, .func (.func 123) #[] #[.pointer (some ⟨g, 0, none⟩)], .int .i64 3, .func (.func 124) #[] #[.pointer (some ⟨g, 0, none⟩)], .int .i64 4, .func (.func 125) #[] #[.pointer (some ⟨g, 0, none⟩)], .int .i64 5, .func (.func 126) #[] #[.pointer (some ⟨g, 0, none⟩)], .int .i64 6, .func (.func 127) #[] #[]] 191
theorem kindRules_any (w : World) :
    Calls Tryz.prog 103 #[] w fun e w' => e = .returned (.slice (some ⟨w.heap.size + 1, 0, none⟩) 6 6) ∧ w' = (w.alloc (.cells #[.func (.func 120) #[] #[]] 219)).alloc (rulesO w.heap.size) := by
  go_enter Tryz.func103, Tryz.ntmps103
  go_wp2
  go_ret
  exact ⟨rfl, rfl⟩

theorem kindRules_gives (w : World) :
    Calls Tryz.prog 103 #[] w fun e w' => ∃ g, e = .returned (.slice (some ⟨g + 1, 0, none⟩) 6 6) ∧ Below w.heap.size w w' ∧ g + 1 < w'.heap.size ∧ w'.cell? ⟨g, 0, none⟩ = some (.func (.func 120) #[] #[]) ∧ w'.heap[g + 1]? = some (rulesO g) := by
  refine (kindRules_any w).mono ?_
  rintro e w' ⟨rfl, rfl⟩
  refine ⟨w.heap.size, rfl, ((Below.refl _ _).alloc (Nat.le_refl _) _).alloc (by simp) _, by simp, by simp, ?_⟩
  have := heap_alloc_new (w.alloc (.cells #[.func (.func 120) #[] #[]] 219)) (rulesO w.heap.size)
  simpa using this

/-- the same facts, in a later world -/
def RulesIn (w : World) (g : Nat) : Prop := g + 1 < w.heap.size ∧ w.cell? ⟨g, 0, none⟩ = some (.func (.func 120) #[] #[]) ∧ w.heap[g + 1]? = some (rulesO g)
theorem RulesIn.below {w w' : World} {g : Nat} (h : RulesIn w g) (hb : Below w.heap.size w w') : RulesIn w' g :=
  ⟨Nat.lt_of_lt_of_le h.1 hb.size, (hb.cell (p := ⟨g, 0, none⟩) (by have := h.1; simp; omega)).trans h.2.1, (hb.block _ h.1).trans h.2.2⟩
theorem RulesIn.cells {w : World} {g : Nat} (h : RulesIn w g) :
    (w.cell? ⟨g + 1, 0, none⟩ = some (.int .i64 1) ∧ w.cell? ⟨g + 1, 1, none⟩ = some (.func (.func 122) #[] #[])) ∧
    (w.cell? ⟨g + 1, 2, none⟩ = some (.int .i64 2) ∧ w.cell? ⟨g + 1, 3, none⟩ = some (.func (.func 123) #[] #[.pointer (some ⟨g, 0, none⟩)])) ∧
    (w.cell? ⟨g + 1, 4, none⟩ = some (.int .i64 3) ∧ w.cell? ⟨g + 1, 5, none⟩ = some (.func (.func 124) #[] #[.pointer (some ⟨g, 0, none⟩)])) ∧
    (w.cell? ⟨g + 1, 6, none⟩ = some (.int .i64 4) ∧ w.cell? ⟨g + 1, 7, none⟩ = some (.func (.func 125) #[] #[.pointer (some ⟨g, 0, none⟩)])) ∧
    (w.cell? ⟨g + 1, 8, none⟩ = some (.int .i64 5) ∧ w.cell? ⟨g + 1, 9, none⟩ = some (.func (.func 126) #[] #[.pointer (some ⟨g, 0, none⟩)])) ∧
    (w.cell? ⟨g + 1, 10, none⟩ = some (.int .i64 6) ∧ w.cell? ⟨g + 1, 11, none⟩ = some (.func (.func 127) #[] #[])) := by
  have hc := fun i => cell_of_row w (g + 1) i _ _ _ h.2.2
  simp [hc]

/-- what one rule says -/
def ruleB (k a : Nat) : Bool := match k with
  | 0 => decide (a = 0) | 1 => decide (a / 16777216 = 0) | 2 => decide (a / 16777216 = 127) | 3 => decide (224 ≤ a / 16777216 ∧ a / 16777216 ≤ 239) | 4 => decide (240 ≤ a / 16777216) | _ => true

theorem ruleN0 (a : Nat) (w : World) (ha : a < 4294967296) : Calls Tryz.prog 122 #[.int .u32 a] w fun e w' => e = .returned (.bool (ruleB 0 a)) ∧ Below w.heap.size w w' := by
  refine (rule2_any a w).mono ?_
  rintro e w' ⟨rfl, rfl⟩
  exact ⟨by congr 2; rw [Bool.eq_iff_iff]; simp [ruleB], Below.refl _ _⟩
theorem ruleN1 (a : Nat) (w : World) (ha : a < 4294967296) (g : Addr) (hg : w.cell? g = some (.func (.func 120) #[] #[])) : Calls Tryz.prog 123 #[.int .u32 a, .pointer (some g)] w fun e w' => e = .returned (.bool (ruleB 1 a)) ∧ Below w.heap.size w w' := by
  refine (rule3_any a g w ha hg).mono ?_
  rintro e w' ⟨rfl, rfl⟩
  exact ⟨by congr 2; rw [Bool.eq_iff_iff]; simp [ruleB]; omega, (Below.refl _ _).alloc (Nat.le_refl _) _⟩
theorem ruleN2 (a : Nat) (w : World) (ha : a < 4294967296) (g : Addr) (hg : w.cell? g = some (.func (.func 120) #[] #[])) : Calls Tryz.prog 124 #[.int .u32 a, .pointer (some g)] w fun e w' => e = .returned (.bool (ruleB 2 a)) ∧ Below w.heap.size w w' := by
  refine (rule4_any a g w ha hg).mono ?_
  rintro e w' ⟨rfl, rfl⟩
  exact ⟨by congr 2; rw [Bool.eq_iff_iff]; simp [ruleB]; omega, (Below.refl _ _).alloc (Nat.le_refl _) _⟩
theorem ruleN3 (a : Nat) (w : World) (ha : a < 4294967296) (g : Addr) (hg : w.cell? g = some (.func (.func 120) #[] #[])) : Calls Tryz.prog 125 #[.int .u32 a, .pointer (some g)] w fun e w' => e = .returned (.bool (ruleB 3 a)) ∧ Below w.heap.size w w' := rule5_any a g w ha hg
theorem ruleN4 (a : Nat) (w : World) (ha : a < 4294967296) (g : Addr) (hg : w.cell? g = some (.func (.func 120) #[] #[])) : Calls Tryz.prog 126 #[.int .u32 a, .pointer (some g)] w fun e w' => e = .returned (.bool (ruleB 4 a)) ∧ Below w.heap.size w w' := by
  refine (rule6_any a g w ha hg).mono ?_
  rintro e w' ⟨rfl, rfl⟩
  exact ⟨by congr 2; rw [Bool.eq_iff_iff]; simp [ruleB]; omega, (Below.refl _ _).alloc (Nat.le_refl _) _⟩
theorem ruleN5 (a : Nat) (w : World) (ha : a < 4294967296) : Calls Tryz.prog 127 #[.int .u32 a] w fun e w' => e = .returned (.bool (ruleB 5 a)) ∧ Below w.heap.size w w' := by
  refine (rule7_any a w).mono ?_
  rintro e w' ⟨rfl, rfl⟩
  exact ⟨rfl, Below.refl _ _⟩
/-- the first rule from k on that is so -/
def fromR : Nat → Nat → Nat → Nat
  | 0, _, _ => 0
  | f + 1, k, a => if ruleB k a then k + 1 else fromR f (k + 1) a
theorem fromR_kind (a : Nat) : fromR 6 0 a = kindF a := by
  unfold kindF
  simp only [fromR, ruleB]
  simp only [decide_eq_true_eq]
  rfl

set_option maxHeartbeats 4000000 in
theorem kind_any (a : Nat) (w : World) (ha : a < 4294967296) :
    Calls Tryz.prog 78 #[.int .u32 a] w fun e w' => e = .returned (.int .i64 (kindF a)) ∧ Below w.heap.size w w' := by
  rw [← fromR_kind]
  go_enter Tryz.func78, Tryz.ntmps78
  go_wp2_with fail
  refine (kindRules_gives w).mono ?_
  rintro e w1 ⟨g, rfl, hb1, hR⟩
  replace hR : RulesIn w1 g := hR
  have HR := Lib.hid hR
  clear hR
  go_wp2_with fail
  go_loopw [7] (fun i wr => ∃ k : Nat, k < 6 ∧ i = .int .i64 k ∧ RulesIn wr g ∧ Below w.heap.size w wr ∧ fromR (6 - k) k a = fromR 6 0 a) (fun i _ => 6 - (intOf i).toNat)
  case atStart => exact ⟨0, by omega, rfl, HR.out, hb1, rfl⟩
  case round =>
    obtain ⟨k, hk, rfl, hR, hb, hf⟩ := hrel
    have HF : Hid (fromR (6 - k) k a = fromR 6 0 a) := Lib.hid hf
    clear hf
    obtain ⟨⟨a0, f0⟩, ⟨a1, f1⟩, ⟨a2, f2⟩, ⟨a3, f3⟩, ⟨a4, f4⟩, ⟨a5, f5⟩⟩ := hR.cells
    have hg0 := hR.2.1
    have HR2 := Lib.hid hR
    clear hR HR
    rcases (by omega : k = 0 ∨ k = 1 ∨ k = 2 ∨ k = 3 ∨ k = 4 ∨ k = 5) with rfl | rfl | rfl | rfl | rfl | rfl
    · clear a1 f1 a2 f2 a3 f3 a4 f4 a5 f5
      cases hr : ruleB 0 a
      · have c1 := ruleN0 a (wr.alloc (.cells #[.int .i64 1, .func (.func 122) #[] #[]] 191)) ha
        have hrT := Lib.hid hr
        rw [hr] at c1
        have C1 := Lib.hid c1
        clear c1 hr
        go_wp2_with fail
        refine C1.out.mono ?_
        rintro e w2 ⟨rfl, hb2⟩
        have hbx : w2.cell? ⟨wr.heap.size, 0, none⟩ = some (.int .i64 1) := (hb2.cell (p := ⟨wr.heap.size, 0, none⟩) (by simp)).trans (by simp)
        have hbw : Below wr.heap.size wr w2 := ((Below.refl _ _).alloc (Nat.le_refl _) _).trans (hb2.mono (by simp))
        clear hb2 C1
        go_wp2_with fail
        go_roundw
        case rel => exact ⟨1, by omega, rfl, HR2.out.below hbw, bnext hb hbw, by simp [fromR, hrT.out]⟩
        case measure => simp [intOf]
      · have c1 := ruleN0 a (wr.alloc (.cells #[.int .i64 1, .func (.func 122) #[] #[]] 191)) ha
        have hrT := Lib.hid hr
        rw [hr] at c1
        have C1 := Lib.hid c1
        clear c1 hr
        go_wp2_with fail
        refine C1.out.mono ?_
        rintro e w2 ⟨rfl, hb2⟩
        have hbx : w2.cell? ⟨wr.heap.size, 0, none⟩ = some (.int .i64 1) := (hb2.cell (p := ⟨wr.heap.size, 0, none⟩) (by simp)).trans (by simp)
        have hbw : Below wr.heap.size wr w2 := ((Below.refl _ _).alloc (Nat.le_refl _) _).trans (hb2.mono (by simp))
        clear hb2 C1
        go_wp2_with fail
        go_ret
        exact ⟨by simp [fromR, hrT.out], bnext hb hbw⟩
    · clear a0 f0 a2 f2 a3 f3 a4 f4 a5 f5
      cases hr : ruleB 1 a
      · have c1 := ruleN1 a (wr.alloc (.cells #[.int .i64 2, .func (.func 123) #[] #[.pointer (some ⟨g, 0, none⟩)]] 191)) ha ⟨g, 0, none⟩ (by rw [World.cell?_alloc_lt _ _ _ (cell_lt hg0)]; exact hg0)
        have hrT := Lib.hid hr
        rw [hr] at c1
        have C1 := Lib.hid c1
        clear c1 hr
        go_wp2_with fail
        refine C1.out.mono ?_
        rintro e w2 ⟨rfl, hb2⟩
        have hbx : w2.cell? ⟨wr.heap.size, 0, none⟩ = some (.int .i64 2) := (hb2.cell (p := ⟨wr.heap.size, 0, none⟩) (by simp)).trans (by simp)
        have hbw : Below wr.heap.size wr w2 := ((Below.refl _ _).alloc (Nat.le_refl _) _).trans (hb2.mono (by simp))
        clear hb2 C1
        go_wp2_with fail
        go_roundw
        case rel => exact ⟨2, by omega, rfl, HR2.out.below hbw, bnext hb hbw, by rw [← HF.out]; simp [fromR, hrT.out]⟩
        case measure => simp [intOf]
      · have c1 := ruleN1 a (wr.alloc (.cells #[.int .i64 2, .func (.func 123) #[] #[.pointer (some ⟨g, 0, none⟩)]] 191)) ha ⟨g, 0, none⟩ (by rw [World.cell?_alloc_lt _ _ _ (cell_lt hg0)]; exact hg0)
        have hrT := Lib.hid hr
        rw [hr] at c1
        have C1 := Lib.hid c1
        clear c1 hr
        go_wp2_with fail
        refine C1.out.mono ?_
        rintro e w2 ⟨rfl, hb2⟩
        have hbx : w2.cell? ⟨wr.heap.size, 0, none⟩ = some (.int .i64 2) := (hb2.cell (p := ⟨wr.heap.size, 0, none⟩) (by simp)).trans (by simp)
        have hbw : Below wr.heap.size wr w2 := ((Below.refl _ _).alloc (Nat.le_refl _) _).trans (hb2.mono (by simp))
        clear hb2 C1
        go_wp2_with fail
        go_ret
        rw [← HF.out]
        exact ⟨by simp [fromR, hrT.out], bnext hb hbw⟩
    · clear a0 f0 a1 f1 a3 f3 a4 f4 a5 f5
      cases hr : ruleB 2 a
      · have c1 := ruleN2 a (wr.alloc (.cells #[.int .i64 3, .func (.func 124) #[] #[.pointer (some ⟨g, 0, none⟩)]] 191)) ha ⟨g, 0, none⟩ (by rw [World.cell?_alloc_lt _ _ _ (cell_lt hg0)]; exact hg0)
        have hrT := Lib.hid hr
        rw [hr] at c1
        have C1 := Lib.hid c1
        clear c1 hr
        go_wp2_with fail
        refine C1.out.mono ?_
        rintro e w2 ⟨rfl, hb2⟩
        have hbx : w2.cell? ⟨wr.heap.size, 0, none⟩ = some (.int .i64 3) := (hb2.cell (p := ⟨wr.heap.size, 0, none⟩) (by simp)).trans (by simp)
        have hbw : Below wr.heap.size wr w2 := ((Below.refl _ _).alloc (Nat.le_refl _) _).trans (hb2.mono (by simp))
        clear hb2 C1
        go_wp2_with fail
        go_roundw
        case rel => exact ⟨3, by omega, rfl, HR2.out.below hbw, bnext hb hbw, by rw [← HF.out]; simp [fromR, hrT.out]⟩
        case measure => simp [intOf]
      · have c1 := ruleN2 a (wr.alloc (.cells #[.int .i64 3, .func (.func 124) #[] #[.pointer (some ⟨g, 0, none⟩)]] 191)) ha ⟨g, 0, none⟩ (by rw [World.cell?_alloc_lt _ _ _ (cell_lt hg0)]; exact hg0)
        have hrT := Lib.hid hr
        rw [hr] at c1
        have C1 := Lib.hid c1
        clear c1 hr
        go_wp2_with fail
        refine C1.out.mono ?_
        rintro e w2 ⟨rfl, hb2⟩
        have hbx : w2.cell? ⟨wr.heap.size, 0, none⟩ = some (.int .i64 3) := (hb2.cell (p := ⟨wr.heap.size, 0, none⟩) (by simp)).trans (by simp)
        have hbw : Below wr.heap.size wr w2 := ((Below.refl _ _).alloc (Nat.le_refl _) _).trans (hb2.mono (by simp))
        clear hb2 C1
        go_wp2_with fail
        go_ret
        rw [← HF.out]
        exact ⟨by simp [fromR, hrT.out], bnext hb hbw⟩
    · clear a0 f0 a1 f1 a2 f2 a4 f4 a5 f5
      cases hr : ruleB 3 a
      · have c1 := ruleN3 a (wr.alloc (.cells #[.int .i64 4, .func (.func 125) #[] #[.pointer (some ⟨g, 0, none⟩)]] 191)) ha ⟨g, 0, none⟩ (by rw [World.cell?_alloc_lt _ _ _ (cell_lt hg0)]; exact hg0)
        have hrT := Lib.hid hr
        rw [hr] at c1
        have C1 := Lib.hid c1
        clear c1 hr
        go_wp2_with fail
        refine C1.out.mono ?_
        rintro e w2 ⟨rfl, hb2⟩
        have hbx : w2.cell? ⟨wr.heap.size, 0, none⟩ = some (.int .i64 4) := (hb2.cell (p := ⟨wr.heap.size, 0, none⟩) (by simp)).trans (by simp)
        have hbw : Below wr.heap.size wr w2 := ((Below.refl _ _).alloc (Nat.le_refl _) _).trans (hb2.mono (by simp))
        clear hb2 C1
        go_wp2_with fail
        go_roundw
        case rel => exact ⟨4, by omega, rfl, HR2.out.below hbw, bnext hb hbw, by rw [← HF.out]; simp [fromR, hrT.out]⟩
        case measure => simp [intOf]
      · have c1 := ruleN3 a (wr.alloc (.cells #[.int .i64 4, .func (.func 125) #[] #[.pointer (some ⟨g, 0, none⟩)]] 191)) ha ⟨g, 0, none⟩ (by rw [World.cell?_alloc_lt _ _ _ (cell_lt hg0)]; exact hg0)
        have hrT := Lib.hid hr
        rw [hr] at c1
        have C1 := Lib.hid c1
        clear c1 hr
        go_wp2_with fail
        refine C1.out.mono ?_
        rintro e w2 ⟨rfl, hb2⟩
        have hbx : w2.cell? ⟨wr.heap.size, 0, none⟩ = some (.int .i64 4) := (hb2.cell (p := ⟨wr.heap.size, 0, none⟩) (by simp)).trans (by simp)
        have hbw : Below wr.heap.size wr w2 := ((Below.refl _ _).alloc (Nat.le_refl _) _).trans (hb2.mono (by simp))
        clear hb2 C1
        go_wp2_with fail
        go_ret
        rw [← HF.out]
        exact ⟨by simp [fromR, hrT.out], bnext hb hbw⟩
    · clear a0 f0 a1 f1 a2 f2 a3 f3 a5 f5
      cases hr : ruleB 4 a
      · have c1 := ruleN4 a (wr.alloc (.cells #[.int .i64 5, .func (.func 126) #[] #[.pointer (some ⟨g, 0, none⟩)]] 191)) ha ⟨g, 0, none⟩ (by rw [World.cell?_alloc_lt _ _ _ (cell_lt hg0)]; exact hg0)
        have hrT := Lib.hid hr
        rw [hr] at c1
        have C1 := Lib.hid c1
        clear c1 hr
        go_wp2_with fail
        refine C1.out.mono ?_
        rintro e w2 ⟨rfl, hb2⟩
        have hbx : w2.cell? ⟨wr.heap.size, 0, none⟩ = some (.int .i64 5) := (hb2.cell (p := ⟨wr.heap.size, 0, none⟩) (by simp)).trans (by simp)
        have hbw : Below wr.heap.size wr w2 := ((Below.refl _ _).alloc (Nat.le_refl _) _).trans (hb2.mono (by simp))
        clear hb2 C1
        go_wp2_with fail
        go_roundw
        case rel => exact ⟨5, by omega, rfl, HR2.out.below hbw, bnext hb hbw, by rw [← HF.out]; simp [fromR, hrT.out]⟩
        case measure => simp [intOf]
      · have c1 := ruleN4 a (wr.alloc (.cells #[.int .i64 5, .func (.func 126) #[] #[.pointer (some ⟨g, 0, none⟩)]] 191)) ha ⟨g, 0, none⟩ (by rw [World.cell?_alloc_lt _ _ _ (cell_lt hg0)]; exact hg0)
        have hrT := Lib.hid hr
        rw [hr] at c1
        have C1 := Lib.hid c1
        clear c1 hr
        go_wp2_with fail
        refine C1.out.mono ?_
        rintro e w2 ⟨rfl, hb2⟩
        have hbx : w2.cell? ⟨wr.heap.size, 0, none⟩ = some (.int .i64 5) := (hb2.cell (p := ⟨wr.heap.size, 0, none⟩) (by simp)).trans (by simp)
        have hbw : Below wr.heap.size wr w2 := ((Below.refl _ _).alloc (Nat.le_refl _) _).trans (hb2.mono (by simp))
        clear hb2 C1
        go_wp2_with fail
        go_ret
        rw [← HF.out]
        exact ⟨by simp [fromR, hrT.out], bnext hb hbw⟩
    · clear a0 f0 a1 f1 a2 f2 a3 f3 a4 f4
      cases hr : ruleB 5 a
      · simp [ruleB] at hr
      · have c1 := ruleN5 a (wr.alloc (.cells #[.int .i64 6, .func (.func 127) #[] #[]] 191)) ha
        have hrT := Lib.hid hr
        rw [hr] at c1
        have C1 := Lib.hid c1
        clear c1 hr
        go_wp2_with fail
        refine C1.out.mono ?_
        rintro e w2 ⟨rfl, hb2⟩
        have hbx : w2.cell? ⟨wr.heap.size, 0, none⟩ = some (.int .i64 6) := (hb2.cell (p := ⟨wr.heap.size, 0, none⟩) (by simp)).trans (by simp)
        have hbw : Below wr.heap.size wr w2 := ((Below.refl _ _).alloc (Nat.le_refl _) _).trans (hb2.mono (by simp))
        clear hb2 C1
        go_wp2_with fail
        go_ret
        rw [← HF.out]
        exact ⟨by simp [fromR, hrT.out], bnext hb hbw⟩
end Go.Proofs.YtlanfceilajifaaGreatDoor
