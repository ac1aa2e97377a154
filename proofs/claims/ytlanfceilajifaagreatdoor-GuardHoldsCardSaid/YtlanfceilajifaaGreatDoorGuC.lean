/- GuardHolds: the walk. -/
import Derived.Test.YtlanfceilajifaaGreatDoorGu9
import Derived.Test.YtlanfceilajifaaGreatDoorME
import Derived.Test.YtlanfceilajifaaGreatDoorLast
import Derived.Deep.AppendLies
import Derived.Deep.RegionHeldLaw
import Derived.Deep.CutRange
import Derived.Great.BuildSlice
namespace Go.Proofs.YtlanfceilajifaaGreatDoor
set_option linter.unusedVariables false
set_option linter.unusedSimpArgs false
open Go.RowKit
set_option maxRecDepth 100000
theorem er_ofB (e : Er) (l : List UInt8) (hf : fitR e) (ho : okE e = true) : erOf (enB e ++ l) 0 = e := by
  obtain ⟨h1, h2, h3, h4⟩ := okE_parts ho
  obtain ⟨f, t, a, m, x, k⟩ := e
  simp only at h1 h2 h3 h4
  have h := read_entB f.toNat t.toNat a m x k l h2 h4 hf.1 hf.2.1 hf.2.2.1 hf.2.2.2
  unfold readE at h
  injection h with h
  injection h with h
  injection h with g0 h
  injection h with g1 h
  injection h with g2 h
  injection h with g3 h
  injection h with g4 h
  injection h with g5 h
  injection g0 with _ g0
  injection g1 with _ g1
  injection g2 with _ g2
  injection g3 with _ g3
  injection g4 with _ g4
  injection g5 with _ g5
  unfold erOf enB
  simp only [Nat.zero_mul, List.drop_zero]
  rw [Er.mk.injEq]
  exact ⟨by omega, by omega, by omega, by omega, by omega, by omega⟩
theorem er_next (b l : List UInt8) (hb : b.length = 20) (i : Nat) : erOf (b ++ l) (i + 1) = erOf l i := by
  unfold erOf
  rw [show (b ++ l).drop ((i + 1) * 20) = l.drop (i * 20) by rw [Nat.succ_mul, Nat.add_comm, ← List.drop_drop, ← hb, List.drop_left]]
theorem ers_cons (b l : List UInt8) (hb : b.length = 20) : ersOf (b ++ l) = erOf (b ++ l) 0 :: ersOf l := by
  unfold ersOf
  rw [List.length_append, hb, show (20 + l.length) / 20 = l.length / 20 + 1 by omega, List.range_succ_eq_map, List.map_cons, List.map_map]
  congr 1
  exact List.map_congr_left fun i _ => er_next b l hb i
theorem ers_esB : ∀ (l : List Er), (∀ e ∈ l, fitR e) → l.all okE = true → ersOf (esB l) = l
  | [], _, _ => rfl
  | e :: l, hf, ho => by
    rw [List.all_cons, Bool.and_eq_true] at ho
    show ersOf (enB e ++ esB l) = e :: l
    rw [ers_cons _ _ (enB_len e), er_ofB e _ (hf e (by simp)) ho.1, ers_esB l (fun x hx => hf x (by simp [hx])) ho.2]
theorem esB_ers : ∀ (n : Nat) (b : List UInt8), b.length = n * 20 → esB (ersOf b) = b
  | 0, b, h => by
    obtain rfl : b = [] := List.eq_nil_of_length_eq_zero (by omega)
    rfl
  | n + 1, b, h => by
    have h20 : (b.take 20).length = 20 := by simp; omega
    have e : b = b.take 20 ++ b.drop 20 := (List.take_append_drop 20 b).symm
    have ih := esB_ers n (b.drop 20) (by simp; omega)
    have h1 : ersOf b = erOf b 0 :: ersOf (b.drop 20) := by
      have := ers_cons (b.take 20) (b.drop 20) h20
      rwa [← e] at this
    rw [h1]
    show enB (erOf b 0) ++ esB (ersOf (b.drop 20)) = b
    rw [ih]
    have h2 : enB (erOf b 0) = b.take 20 := by
      have := entB_read b (by omega)
      unfold enB erOf
      simpa using this
    rw [h2, List.take_append_drop]
theorem encE_zero {cm : Int} {l : List Er} (h : encE cm l = 0) : (cm = 1 ∨ cm = 2) ∧ l.length ≤ 25 ∧ l.all okE = true := by
  unfold encE at h
  split at h
  · omega
  split at h
  · omega
  split at h
  · rename_i h1 h2 h3
    have : cmdB cm = true := by simpa using h1
    exact ⟨of_decide_eq_true this, by omega, h3⟩
  · omega
theorem at8_0 (a b c d : UInt8) (l : List UInt8) : at8 (a :: b :: c :: d :: l) 0 = a.toNat := rfl
theorem at8_1 (a b c d : UInt8) (l : List UInt8) : at8 (a :: b :: c :: d :: l) 1 = b.toNat := rfl
theorem at8_2 (a b c d : UInt8) (l : List UInt8) : at8 (a :: b :: c :: d :: l) 2 = c.toNat := rfl
theorem at8_3 (a b c d : UInt8) (l : List UInt8) : at8 (a :: b :: c :: d :: l) 3 = d.toNat := rfl
/-- what bytes are worth whose body is entries' bytes -/
theorem decE_head (a b c d : UInt8) (l : List Er) (hl : l.length ≤ 25) : decE (a :: b :: c :: d :: esB l) = if b.toNat ≠ 2 then 152 else if cmdB a.toNat = false then 153 else if c.toNat * 256 + d.toNat ≠ 0 then 154 else 0 := by
  unfold decE
  have hL : (a :: b :: c :: d :: esB l).length = l.length * 20 + 4 := by simp [esB_len]
  rw [hL, if_neg (by omega), if_neg (by omega), at8_0, at8_1, at8_2, at8_3]
theorem pkB_1 (l : List Er) : pkB 1 l = 1 :: 2 :: 0 :: 0 :: esB l := rfl
theorem pkB_2 (l : List Er) : pkB 2 l = 2 :: 2 :: 0 :: 0 :: esB l := rfl
theorem pkB_len (cm : Int) (l : List Er) : (pkB cm l).length = l.length * 20 + 4 := by simp [pkB, headB, esB_len]
theorem dec_enc {cm : Int} {l : List Er} (h : encE cm l = 0) (hf : ∀ e ∈ l, fitR e) : decE (pkB cm l) = 0 ∧ dcmd (pkB cm l) = cm ∧ desL (pkB cm l) = l := by
  obtain ⟨hc, hl, ho⟩ := encE_zero h
  have hd : decE (pkB cm l) = 0 := by
    rcases hc with rfl | rfl
    · rw [pkB_1, decE_head _ _ _ _ _ hl]; decide
    · rw [pkB_2, decE_head _ _ _ _ _ hl]; decide
  refine ⟨hd, ?_, ?_⟩
  · unfold dcmd
    rw [if_pos hd]
    rcases hc with rfl | rfl <;> rfl
  · unfold desL
    rw [if_pos hd]
    rcases hc with rfl | rfl
    · exact ers_esB l hf ho
    · exact ers_esB l hf ho

section
variable {P : Program} {w : World} {B : Nat} {A : Option Addr}
/-- an append of any cells that are read, at a step of a region that draws its order -/
theorem step_append_rd16 {ops : Array Oper} {o : Oper} {a : Act} {K : Act → World → Prop} {Q : Exit → Act → World → Prop} {E : Prop} {d : Nat} (hd : o.dst = some d) (hgd : o.guard = none) (s x : Operand) (t : TypeId)
    (ho : o.op = .call { callee := .builtin .append, args := #[s, x], argTypes := #[t, t] })
    (base : Nat) (e : TypeId) (i : TypeInfo) (z : Value) (size bytes : Nat) (ht : P.underlying t = some (.slice e)) (hi : P.info? e = some i) (hz : i.zero = some z)
    (hsize : i.size = size) (hby : i.bytes = bytes) (hzs : z.cells.size = size) (hsz : 0 < size)
    (v : Value) (n : Nat) (xs : List Value) (hs : a.eval s = v) (hown : w.ownsRow base e size v n xs)
    (m c : Nat) (ys : List Value) (hx : a.eval x = .slice A m c) (hl : ys.length = m * size) (hr : Rd w B A ys) (h1 : ∀ u ∈ ys, u.oneCell' = true)
    (h63 : n + m ≤ maxLen) (hbytes : (n + m) * bytes ≤ 140737488355328) (hbase : base ≤ w.heap.size)
    (h : ∀ A' c' w', w'.ownsRow base e size (.slice A' (n + m) c') (n + m) (xs ++ ys) → w.grownBy w' v.ownBlock → ((Value.slice A' (n + m) c').ownBlock = v.ownBlock ∨ (Value.slice A' (n + m) c').ownBlock = some w.heap.size) → K { a with tmps := a.tmps.setIfInBounds d (.slice A' (n + m) c') } w') :
    if Region.wanted o (yielded ops a.tmps) = true then Oper.wp P o a w K Q else E := by
  have hw : Region.wanted o (yielded ops a.tmps) = true := by simp [Region.wanted, hgd]
  rw [if_pos hw]
  obtain ⟨v', w', g1, g2, g3, g4⟩ := run_append_rd (P := P) base t o.type e i z size bytes ht hi hz hsize hby hzs hsz v n xs hown m c ys hl hr h1 h63 hbytes hbase
  obtain ⟨A', c', rfl, _⟩ := own_row g2
  unfold Oper.wp execOp
  simp only [ho, resolve, invoke, builtin, Sem.run_bind, Sem.run_pure, Result.andThen_ok, List.map_toArray, List.map_cons, List.map_nil, hs, hx, g1]
  show K (a.put o.dst _) _
  rw [hd]
  exact h _ _ _ g2 g3 g4
end
theorem step_one {P : Program} {ops : Array Oper} {o : Oper} {a : Act} {w : World} {K : Act → World → Prop} {Q : Exit → Act → World → Prop} {E : Prop} {d : Nat} (hd : o.dst = some d) (hgd : o.guard = none) (t e : TypeId) (x : Operand) (ho : o.op = .buildSlice t 1 #[(0, x)])
    (ie : TypeInfo) (z v : Value) (cells : Array Value) (hu : P.underlying t = some (.slice e)) (hie : P.info? e = some ie) (hz : ie.zero = some z) (hs : ie.size = 6) (hx : a.eval x = v)
    (hf : Instr.fill (fun i => some (i * 6, 6)) ((Array.range (1 * 6)).map (z.cells[· % z.cells.size]!)) [(0, v)] = some cells)
    (h : K { a with tmps := a.tmps.setIfInBounds d (.slice (some ⟨w.heap.size, 0, none⟩) 1 1) } (w.alloc (.cells cells e))) :
    if Region.wanted o (yielded ops a.tmps) = true then Oper.wp P o a w K Q else E := by
  have hw : Region.wanted o (yielded ops a.tmps) = true := by simp [Region.wanted, hgd]
  rw [if_pos hw]
  refine wp_buildSlice t e 1 _ ho cells ie z hu hie hz (by rw [hs]; omega) (by rw [hs]; omega) (by rw [hs]; simpa [hx] using hf) ?_
  rw [hd]
  exact h
theorem wpAnyX_takeD {P : Program} {ops : Array Oper} {Q : Exit → Act → World → Prop} {md : Region.Mode} {S : World → Prop} {L : Nat} {i d : Nat} {oi : Oper} {v : Value} {fuel : Nat} {listed : Array Bool} {a : Act} {w : World} (hi : ops[i]? = some oi) (hd : oi.dst = some d) (hiL : i < L) (hl : lastB md ops L = true)
    (hs : Region.noSelect ops = true) (hf : Region.free md ops listed i = true) (hr : (Region.ready md ops listed).contains i = true)
    (hQ : ∀ c a w, Q (.panic c) (a.put oi.dst v) w → Q (.panic c) a w) (hw : Region.wanted oi (yielded ops a.tmps) = true) (hy : ∀ w, S w → (execOp a.eval oi).run P w = .ok (.value v) w) (hS : S w)
    (h : wpAnyX P md ops Q S L fuel (listed.setIfInBounds i true) { a with tmps := a.tmps.setIfInBounds d v } w) : wpAnyX P md ops Q S L (fuel + 1) listed a w :=
  wpAnyX_take hi hiL hl hs hf hr hQ hw hy hS (by rw [hd]; exact h)
theorem wpAnyX_lit {P : Program} {ops : Array Oper} {Q : Exit → Act → World → Prop} {md : Region.Mode} {S : World → Prop} {L f : Nat} {l l' : Array Bool} {a : Act} {w : World} (e : l = l') (h : wpAnyX P md ops Q S L f l' a w) : wpAnyX P md ops Q S L f l a w := e ▸ h
theorem rd_from {w : World} {B k m cb : Nat} {A : Option Addr} {l : List Er} (hl : l.length = m) (h : Rd w B A (erC l)) (hm : m ≤ cb) : Rd w B (if cb = k then A else A.map (·.add (k * 6))) (erC (l.drop k)) := by
  by_cases hk : k < m
  · rw [if_neg (by omega)]
    have h1 := h.cut (k * 6) ((m - k) * 6) (by omega) (by rw [erC_len, hl]; omega)
    unfold erC at h1
    rw [rows_cut erL_len, List.take_of_length_le (by rw [List.length_drop, hl]; omega)] at h1
    exact h1
  · rw [List.drop_eq_nil_of_le (by omega)]
    exact Rd.nil
theorem rd_upto {w : World} {B k : Nat} {A : Option Addr} {l : List Er} (h : Rd w B A (erC l)) : Rd w B A (erC (l.take k)) := by
  have h1 := h
  rw [← List.take_append_drop k l, erC_app] at h1
  exact h1.pre
/-- the entries with one more -/
def moreL (l : List Er) (k : Nat) (x : Er) : List Er := l.take k ++ [x] ++ l.drop k
theorem moreL_len {l : List Er} {k : Nat} {x : Er} (h : k ≤ l.length) : (moreL l k x).length = l.length + 1 := by
  simp [moreL]
  omega
theorem moreL_fit {l : List Er} {k : Nat} {x : Er} (h : ∀ e ∈ l, fitR e) (hx : fitR x) : ∀ e ∈ moreL l k x, fitR e := by
  intro e he
  simp only [moreL, List.mem_append, List.mem_singleton] at he
  rcases he with (he | he) | he
  · exact h e (List.mem_of_mem_take he)
  · rw [he]; exact hx
  · exact h e (List.mem_of_mem_drop he)
theorem more_law (cm : Int) (l : List Er) (k : Nat) (x : Er) :
    (whyE x ≠ 0 → tlsC cm (moreL l k x) = tlsC cm l ∧ (cm = 2 → (lfsC cm (moreL l k x)).length = (lfsC cm l).length + 1)) ∧
    (whyE x = 0 → cm = 2 → (lfsC cm (moreL l k x)).length = (lfsC cm l).length ∧ (tlsC cm (moreL l k x)).length = (tlsC cm l).length + 1) := by
  have e : l = l.take k ++ l.drop k := (List.take_append_drop k l).symm
  refine ⟨fun h => ⟨?_, fun h2 => ?_⟩, fun h h2 => ⟨?_, ?_⟩⟩
  · unfold tlsC
    split
    · unfold moreL
      rw [tls_more_no h, ← e]
    · rfl
  · unfold lfsC moreL
    rw [if_pos h2, if_pos h2, lfs_more_no h, ← e]
  · unfold lfsC moreL
    rw [if_pos h2, if_pos h2, lfs_more_yes h, ← e]
  · unfold tlsC moreL
    rw [if_pos h2, if_pos h2, tls_more_yes h, ← e]
theorem all_law (cm : Int) (l : List Er) (h2 : cm = 2) : (tlsC cm l).length + (lfsC cm l).length = l.length := by
  unfold tlsC lfsC
  rw [if_pos h2, if_pos h2]
  exact tls_lfs l
theorem look_enc {cm : Int} {l : List Er} (f : Int) (h : encE cm l = 0) (hf : ∀ e ∈ l, fitR e) : lookE f (encB cm l) = f := by
  unfold lookE
  split
  · rfl
  · rename_i h0
    unfold encB
    rw [if_pos h, (dec_enc h hf).1]
    omega

/-- what lies behind the three appends -/
def MoreP (w w1 : World) (bm m : Nat) (cm : Int) (Ab : Option Addr) (cb : Nat) (x : Er) (lm : List Er) (wx : World) : Prop :=
  ∃ A5 c5, m + 1 ≤ c5 ∧ c5 ≤ 9223372036854775807 ∧ Blk wx bm 35 #[.int .i64 cm, .slice A5 (m + 1) c5] ∧ Rd wx wx.heap.size A5 (erC lm) ∧ Blk wx w.heap.size 35 #[.int .i64 cm, .slice Ab m cb] ∧ Blk wx (w.heap.size + 1) 57 #[.int .i64 x.f, .int .i64 x.t, .int .u32 x.a, .int .u32 x.m, .int .u32 x.x, .int .u32 x.k] ∧ Below w.heap.size w wx ∧ Below bm w1 wx
theorem more_fin {w w1 w2 w5 : World} {bm m k : Nat} {cm : Int} {Ab : Option Addr} {cb : Nat} {x : Er} {le : List Er} (hk : k ≤ m) (hs : w.heap.size + 1 + 1 ≤ bm) (hb : bm < w2.heap.size)
    (hdc : Blk w2 w.heap.size 35 #[.int .i64 cm, .slice Ab m cb]) (hxc : Blk w2 (w.heap.size + 1) 57 #[.int .i64 x.f, .int .i64 x.t, .int .u32 x.a, .int .u32 x.m, .int .u32 x.x, .int .u32 x.k]) (ym : Blk w2 bm 35 #[.int .i64 cm, .slice none 0 0]) (b0 : Below w.heap.size w w2) (b2 : Below bm w1 w2)
    (bq : Below w2.heap.size w2 w5) {A5 : Option Addr} {c5 : Nat} (ho : w5.ownsRow w2.heap.size 57 6 (.slice A5 (k + 1 + (m - k)) c5) (k + 1 + (m - k)) (erC (le.take k) ++ [.int .i64 x.f, .int .i64 x.t, .int .u32 x.a, .int .u32 x.m, .int .u32 x.x, .int .u32 x.k] ++ erC (le.drop k))) :
    MoreP w w1 bm m cm Ab cb x (moreL le k x) (w5.setCell ⟨bm, 1, none⟩ (.slice A5 (k + 1 + (m - k)) c5)) := by
  obtain ⟨A6, c6, hv, h1, h2, h3, h4⟩ := own_row ho
  injection hv with e1 e2 e3
  subst e1
  subst e3
  rw [show k + 1 + (m - k) = m + 1 by omega] at h1 ⊢
  have hn : ∀ a, A5 = some a → bm ≠ a.block := fun a ha => by have := h4 a ha; omega
  have y1 := (ym.below bq hb).set 1 (.slice A5 (m + 1) c5)
  simp only [List.setIfInBounds_toArray, List.set_cons_zero, List.set_cons_succ] at y1
  refine ⟨A5, c5, h1, by unfold maxLen at h2; omega, y1, ?_, (hdc.below bq hdc.lt).far (p := ⟨bm, 1, none⟩) (by show ¬ w.heap.size = bm; omega) _, (hxc.below bq hxc.lt).far (p := ⟨bm, 1, none⟩) (by show ¬ w.heap.size + 1 = bm; omega) _, (bnext b0 bq).setCell (p := ⟨bm, 1, none⟩) (by show w.heap.size ≤ bm; omega) _, (b2.trans (bq.mono (Nat.le_of_lt hb))).setCell (p := ⟨bm, 1, none⟩) (Nat.le_refl _) _⟩
  have h5 := (h3.off (g := bm) (i := 1) hn (.slice A5 (m + 1) c5)).more (B' := (w5.setCell ⟨bm, 1, none⟩ (.slice A5 (m + 1) c5)).heap.size) (by simp)
  have he : erC (moreL le k x) = erC (le.take k) ++ [.int .i64 x.f, .int .i64 x.t, .int .u32 x.a, .int .u32 x.m, .int .u32 x.x, .int .u32 x.k] ++ erC (le.drop k) := by
    unfold moreL
    rw [erC_app, erC_app]
    rfl
  rw [he]
  exact h5

set_option maxHeartbeats 8000000 in
theorem guardholds_walk (l : List Fc) (n c : Nat) (A : Option Addr) (i : Int) (a : Nat) (cm : Int) (le : List Er) (m cb : Nat) (Ab : Option Addr) (x : Er) (at0 : Int) (w : World) (hL : Ls w w.heap.size A n c l) (ha : a < 4294967296) (hle : le.length = m) (hrb : Rd w w.heap.size Ab (erC le)) (hfe : ∀ e ∈ le, fitR e) (hmc : m ≤ cb ∧ cb ≤ 9223372036854775807) (hfx : fitR x) (hR : RelsAt w) (hw : WidthsAt w) :
    Calls Tryz.prog 5 #[.slice A n c, .int .i64 i, .int .u32 a, .agg #[.int .i64 cm, .slice Ab m cb], .agg #[.int .i64 x.f, .int .i64 x.t, .int .u32 x.a, .int .u32 x.m, .int .u32 x.x, .int .u32 x.k], .int .i64 at0] w fun e w' => e = .returned (.bool true) ∧ Below w.heap.size w w' := by
  have HW := Lib.hid (fun W (h : Below w.heap.size w W) => works16_any W (hR.below h) (hw.below h))
  have hdc := (Blk.new w 35 #[.int .i64 cm, .slice Ab m cb]).alloc (.cells #[.int .i64 x.f, .int .i64 x.t, .int .u32 x.a, .int .u32 x.m, .int .u32 x.x, .int .u32 x.k] 57)
  have hxc := Blk.new (w.alloc (.cells #[.int .i64 cm, .slice Ab m cb] 35)) 57 #[.int .i64 x.f, .int .i64 x.t, .int .u32 x.a, .int .u32 x.m, .int .u32 x.x, .int .u32 x.k]
  have b0 : Below w.heap.size w ((w.alloc (.cells #[.int .i64 cm, .slice Ab m cb] 35)).alloc (.cells #[.int .i64 x.f, .int .i64 x.t, .int .u32 x.a, .int .u32 x.m, .int .u32 x.x, .int .u32 x.k] 57)) := balloc (balloc (Below.refl _ _) _) _
  simp only [World.size_alloc] at hxc
  obtain ⟨w0, hw0⟩ : ∃ w0, w0 = (w.alloc (.cells #[.int .i64 cm, .slice Ab m cb] 35)).alloc (.cells #[.int .i64 x.f, .int .i64 x.t, .int .u32 x.a, .int .u32 x.m, .int .u32 x.x, .int .u32 x.k] 57) := ⟨_, rfl⟩
  rw [← hw0] at hdc hxc b0
  have HW0 := Lib.hid hw0
  have HL := Lib.hid hL
  have HR := Lib.hid hR
  have HWD := Lib.hid hw
  have HRB := Lib.hid hrb
  have HLE := Lib.hid hle
  have HFE := Lib.hid hfe
  have HFX := Lib.hid hfx
  have d0 := (hdc).cell 0
  have d1 := (hdc).cell 1
  simp only [List.getElem?_toArray, List.getElem?_cons_zero, List.getElem?_cons_succ] at d0 d1
  have Z := Lib.hid (And.intro hdc (And.intro hxc b0))
  clear hw0 hL hR hw hrb hle hfe hfx hdc hxc b0
  by_cases h16 : n ≤ 16
  case neg =>
    have g1 : decide ((16 : Int) < n) = true := decide_eq_true (by omega)
    have BB := Z.out.2.2
    clear d0 d1
    go_enter Tryz.func5, Tryz.ntmps5
    go_upto_region 1 with fail
    rw [← HW0.out]
    go_wp2_with fail
    refine (HW.out _ BB).mono ?_
    rintro e w9 ⟨rfl, b9⟩
    go_wp2_with fail
    go_ret
    exact ⟨rfl, bnext BB b9⟩
  have g1 : decide ((16 : Int) < n) = false := decide_eq_false (by omega)
  by_cases h24 : m ≤ 24
  case neg =>
    have g2 : decide ((24 : Int) < m) = true := decide_eq_true (by omega)
    have BB := Z.out.2.2
    go_enter Tryz.func5, Tryz.ntmps5
    go_upto_region 1 with fail
    rw [← HW0.out]
    go_wp2_with fail
    refine (HW.out _ BB).mono ?_
    rintro e w9 ⟨rfl, b9⟩
    go_wp2_with fail
    go_ret
    exact ⟨rfl, bnext BB b9⟩
  have g2 : decide ((24 : Int) < m) = false := decide_eq_false (by omega)
  by_cases h0 : 0 ≤ at0
  case neg =>
    have g3 : decide (at0 < 0) = true := decide_eq_true (by omega)
    have BB := Z.out.2.2
    go_enter Tryz.func5, Tryz.ntmps5
    go_upto_region 1 with fail
    rw [← HW0.out]
    go_wp2_with fail
    refine (HW.out _ BB).mono ?_
    rintro e w9 ⟨rfl, b9⟩
    go_wp2_with fail
    go_ret
    exact ⟨rfl, bnext BB b9⟩
  have g3 : decide (at0 < 0) = false := decide_eq_false (by omega)
  by_cases hm : at0 ≤ m
  case neg =>
    have g4 : decide ((m : Int) < at0) = true := decide_eq_true (by omega)
    have BB := Z.out.2.2
    go_enter Tryz.func5, Tryz.ntmps5
    go_upto_region 1 with fail
    rw [← HW0.out]
    go_wp2_with fail
    refine (HW.out _ BB).mono ?_
    rintro e w9 ⟨rfl, b9⟩
    go_wp2_with fail
    go_ret
    exact ⟨rfl, bnext BB b9⟩
  obtain ⟨k, rfl⟩ := Int.eq_ofNat_of_zero_le h0
  have g4 : decide ((m : Int) < (k : Int)) = false := decide_eq_false (by omega)
  have hkm : k ≤ m := by omega
  have HNW := Lib.hid (fnew_any l n c w.heap.size A w0 ⟨HL.out.len, HL.out.cap, HL.out.rd.below Z.out.2.2, HL.out.fit⟩ Z.out.2.2.size (HR.out.below Z.out.2.2) (by omega))
  go_enter Tryz.func5, Tryz.ntmps5
  go_upto_region 1 with fail
  rw [← HW0.out]
  go_wp2_with fail
  refine HNW.out.mono ?_
  clear h0 hm d0 d1
  rintro e w1 ⟨hcase, b1⟩
  obtain ⟨S, E, rfl, hSE⟩ : ∃ S E, e = .returned (.tuple #[S, .int .i64 E]) ∧ ((E = 0 ∧ ∃ g v, S = .pointer (some ⟨g, 0, none⟩) ∧ Fs w1 w0.heap.size g v l) ∨ (E ≠ 0 ∧ S = .pointer none)) := by
    rcases hcase with ⟨_, g, v, rfl, hF⟩ | ⟨hno, rfl⟩
    · exact ⟨_, _, rfl, .inl ⟨rfl, g, v, rfl, hF⟩⟩
    · exact ⟨_, _, rfl, .inr ⟨hno, rfl⟩⟩
  obtain ⟨hdc, hxc, b0⟩ := Z.out
  replace hdc := hdc.below b1 hdc.lt
  replace hxc := hxc.below b1 hxc.lt
  replace b0 := bnext b0 b1
  have HSE := Lib.hid hSE
  clear hSE hcase b1 HNW Z
  have d0 := (hdc).cell 0
  have d1 := (hdc).cell 1
  simp only [List.getElem?_toArray, List.getElem?_cons_zero, List.getElem?_cons_succ] at d0 d1
  have hml := Nat.lt_of_lt_of_le hxc.lt (Nat.le_refl _)
  have ym := Blk.new w1 35 #[.int .i64 cm, .slice none 0 0]
  replace hdc := hdc.alloc (.cells #[.int .i64 cm, .slice none 0 0] 35)
  replace hxc := hxc.alloc (.cells #[.int .i64 cm, .slice none 0 0] 35)
  have b2 := balloc (Below.refl w1.heap.size w1) (.cells #[.int .i64 cm, .slice none 0 0] 35)
  replace b0 := bnext b0 b2
  have Y := Lib.hid (And.intro hdc (And.intro hxc (And.intro ym (And.intro b0 b2))))
  clear hdc hxc ym b0 b2
  go_upto_region 5 with fail
  obtain ⟨hdc, hxc, ym, b0, b2⟩ := Y.out
  clear Y d0 d1
  obtain ⟨bm, hbm⟩ : ∃ bm, bm = w1.heap.size := ⟨_, rfl⟩
  rw [← hbm] at ym hml ⊢
  rw [← hbm] at b2
  have HBE := Lib.hid hbm
  clear hbm
  generalize w1.alloc (.cells #[.int .i64 cm, .slice none 0 0] 35) = w2 at *
  have hlt := ym.lt
  obtain ⟨i0, hi0, hz0, hz1, hz2⟩ := info_parts ent_info
  have HRD := Lib.hid (fun W (h : Below w2.heap.size w2 W) => HRB.out.below (bnext b0 h))
  have HSC : Hid (∀ W, Below (w.heap.size + 1 + 1) w2 W → W.cell? ⟨w.heap.size, 1, none⟩ = some (.slice Ab m cb) ∧ W.cell? ⟨w.heap.size + 1, 0, none⟩ = some (.int .i64 x.f) ∧ W.cell? ⟨w.heap.size + 1, 1, none⟩ = some (.int .i64 x.t) ∧ W.cell? ⟨w.heap.size + 1, 2, none⟩ = some (.int .u32 x.a) ∧ W.cell? ⟨w.heap.size + 1, 3, none⟩ = some (.int .u32 x.m) ∧ W.cell? ⟨w.heap.size + 1, 4, none⟩ = some (.int .u32 x.x) ∧ W.cell? ⟨w.heap.size + 1, 5, none⟩ = some (.int .u32 x.k)) := Lib.hid (fun W h => by
    have h1 := (h.cell (p := ⟨w.heap.size, 1, none⟩) (by show w.heap.size < _; omega)).trans (hdc.cell 1)
    have e0 := (h.cell (p := ⟨w.heap.size + 1, 0, none⟩) (by show w.heap.size + 1 < _; omega)).trans (hxc.cell 0)
    have e1 := (h.cell (p := ⟨w.heap.size + 1, 1, none⟩) (by show w.heap.size + 1 < _; omega)).trans (hxc.cell 1)
    have e2 := (h.cell (p := ⟨w.heap.size + 1, 2, none⟩) (by show w.heap.size + 1 < _; omega)).trans (hxc.cell 2)
    have e3 := (h.cell (p := ⟨w.heap.size + 1, 3, none⟩) (by show w.heap.size + 1 < _; omega)).trans (hxc.cell 3)
    have e4 := (h.cell (p := ⟨w.heap.size + 1, 4, none⟩) (by show w.heap.size + 1 < _; omega)).trans (hxc.cell 4)
    have e5 := (h.cell (p := ⟨w.heap.size + 1, 5, none⟩) (by show w.heap.size + 1 < _; omega)).trans (hxc.cell 5)
    exact ⟨h1, e0, e1, e2, e3, e4, e5⟩)
  have hkm1 : (0 : Int) ≤ (k : Int) ∧ (k : Int) ≤ (m : Int) ∧ (m : Int) ≤ (cb : Int) := by omega
  have hkm2 : k ≤ cb := by omega
  have cm0 := ym.cell 1
  have fm0 := ym.frozen 1
  simp only [List.getElem?_toArray, List.getElem?_cons_zero, List.getElem?_cons_succ] at cm0
  have cm1 : w2.drew.cell? ⟨bm, 1, none⟩ = some (.slice none 0 0) := cm0
  have BD : Below w2.heap.size w2 w2.drew := Below.drew (Below.refl _ _)
  have BA : Below w2.heap.size w2 (w2.alloc (.cells #[.int .i64 x.f, .int .i64 x.t, .int .u32 x.a, .int .u32 x.m, .int .u32 x.x, .int .u32 x.k] 57)).drew := Below.drew (balloc (Below.refl _ _) _)
  have BDA : Below w2.heap.size w2 (w2.drew.alloc (.cells #[.int .i64 x.f, .int .i64 x.t, .int .u32 x.a, .int .u32 x.m, .int .u32 x.x, .int .u32 x.k] 57)) := balloc BD _
  have RN := (Rd.newL w2 57 #[.int .i64 x.f, .int .i64 x.t, .int .u32 x.a, .int .u32 x.m, .int .u32 x.x, .int .u32 x.k] [.int .i64 x.f, .int .i64 x.t, .int .u32 x.a, .int .u32 x.m, .int .u32 x.x, .int .u32 x.k] rfl).drew
  have hltk : (erC (le.take k)).length = k * 6 := by rw [erC_len, List.length_take, HLE.out, Nat.min_eq_left hkm]
  have hltd : (erC (le.drop k)).length = (m - k) * 6 := by rw [erC_len, List.length_drop, HLE.out]
  have H2 := Lib.hid (And.intro hdc (And.intro hxc (And.intro ym (And.intro b0 b2))))
  clear hdc hxc ym b0 b2
  have L0 := Lib.hid (show 0 + k ≤ maxLen by simp only [maxLen]; omega)
  have L1 := Lib.hid (show (0 + k) * 32 ≤ 140737488355328 by omega)
  have L2 := Lib.hid (show k + 1 ≤ maxLen by simp only [maxLen]; omega)
  have L3 := Lib.hid (show (k + 1) * 32 ≤ 140737488355328 by omega)
  have L4 := Lib.hid (show k + 1 + (m - k) ≤ maxLen by simp only [maxLen]; omega)
  have L5 := Lib.hid (show (k + 1 + (m - k)) * 32 ≤ 140737488355328 by omega)
  have HLT := Lib.hid hlt
  have HTK := Lib.hid hltk
  have HTD := Lib.hid hltd
  have HBM := Lib.hid (show w.heap.size + 1 + 1 ≤ bm by omega)
  have HM2 := Lib.hid (show w.heap.size + 1 + 1 ≤ w2.heap.size by omega)
  have HCM := Lib.hid cm0
  have HFM := Lib.hid fm0
  have HRN := Lib.hid RN
  clear hlt hltk hltd hml cm0 fm0 RN
  go_cut [] from 57 to 73 (fun wx => MoreP w w1 bm m cm Ab cb x (moreL le k x) wx)
  case first =>
    as_aux_lemma =>
      have HK : Hid (∀ W, Below w2.heap.size w2 W → W.cell? ⟨bm, 1, none⟩ = some (.slice none 0 0) ∧ W.cell? ⟨w.heap.size, 1, none⟩ = some (.slice Ab m cb) ∧ W.cell? ⟨w.heap.size + 1, 0, none⟩ = some (.int .i64 x.f) ∧ W.cell? ⟨w.heap.size + 1, 1, none⟩ = some (.int .i64 x.t) ∧ W.cell? ⟨w.heap.size + 1, 2, none⟩ = some (.int .u32 x.a) ∧ W.cell? ⟨w.heap.size + 1, 3, none⟩ = some (.int .u32 x.m) ∧ W.cell? ⟨w.heap.size + 1, 4, none⟩ = some (.int .u32 x.x) ∧ W.cell? ⟨w.heap.size + 1, 5, none⟩ = some (.int .u32 x.k)) := Lib.hid (fun W h => ⟨(h.cell (p := ⟨bm, 1, none⟩) HLT.out).trans HCM.out, HSC.out _ (h.mono HM2.out)⟩)
      have hRF := fun W (h : Below w2.heap.size w2 W) => rd_from (k := k) HLE.out (HRD.out W h) hmc.1
      obtain ⟨AB, hAB⟩ : ∃ AB : Option Addr, (if cb = k then Ab else Ab.map (·.add (k * 6))) = AB := ⟨_, rfl⟩
      rw [hAB] at hRF
      have HRF := Lib.hid hRF
      have HAB := Lib.hid hAB
      clear hRF hAB
      refine wp_region_X (S := fun W => W.cell? ⟨bm, 1, none⟩ = some (.slice none 0 0) ∧ W.cell? ⟨w.heap.size, 1, none⟩ = some (.slice Ab m cb) ∧ W.cell? ⟨w.heap.size + 1, 0, none⟩ = some (.int .i64 x.f) ∧ W.cell? ⟨w.heap.size + 1, 1, none⟩ = some (.int .i64 x.t) ∧ W.cell? ⟨w.heap.size + 1, 2, none⟩ = some (.int .u32 x.a) ∧ W.cell? ⟨w.heap.size + 1, 3, none⟩ = some (.int .u32 x.m) ∧ W.cell? ⟨w.heap.size + 1, 4, none⟩ = some (.int .u32 x.x) ∧ W.cell? ⟨w.heap.size + 1, 5, none⟩ = some (.int .u32 x.k)) 16 (by kernel_rfl) ?_
      refine wpAnyX_lit (l' := #[false, false, false, false, false, false, false, false, false, false, false, false, false, false, false, false, false]) (by kernel_rfl) ?_
      refine wpAnyX_takeD (i := 0) (v := .pointer (some ⟨bm, 1, none⟩)) rfl rfl (by omega) (by kernel_rfl) (by kernel_rfl) (by kernel_rfl) (by kernel_rfl) (fun _ _ _ h => h) (by rfl) ?_ (HK.out _ BD) ?_
      · intro W hSw
        try dsimp only at hSw
        obtain ⟨s0, s1, s2, s3, s4, s5, s6, s7⟩ := hSw
        go_simp
      try simp only [Act.put, List.setIfInBounds_toArray, List.set_cons_zero, List.set_cons_succ]
      refine wpAnyX_takeD (i := 1) (v := .slice none 0 0) rfl rfl (by omega) (by kernel_rfl) (by kernel_rfl) (by kernel_rfl) (by kernel_rfl) (fun _ _ _ h => h) (by rfl) ?_ (HK.out _ BD) ?_
      · intro W hSw
        try dsimp only at hSw
        obtain ⟨s0, s1, s2, s3, s4, s5, s6, s7⟩ := hSw
        go_simp
      try simp only [Act.put, List.setIfInBounds_toArray, List.set_cons_zero, List.set_cons_succ]
      refine wpAnyX_takeD (i := 2) (v := .pointer (some ⟨w.heap.size, 1, none⟩)) rfl rfl (by omega) (by kernel_rfl) (by kernel_rfl) (by kernel_rfl) (by kernel_rfl) (fun _ _ _ h => h) (by rfl) ?_ (HK.out _ BD) ?_
      · intro W hSw
        try dsimp only at hSw
        obtain ⟨s0, s1, s2, s3, s4, s5, s6, s7⟩ := hSw
        go_simp
      try simp only [Act.put, List.setIfInBounds_toArray, List.set_cons_zero, List.set_cons_succ]
      refine wpAnyX_takeD (i := 3) (v := .slice Ab m cb) rfl rfl (by omega) (by kernel_rfl) (by kernel_rfl) (by kernel_rfl) (by kernel_rfl) (fun _ _ _ h => h) (by rfl) ?_ (HK.out _ BD) ?_
      · intro W hSw
        try dsimp only at hSw
        obtain ⟨s0, s1, s2, s3, s4, s5, s6, s7⟩ := hSw
        go_simp
      try simp only [Act.put, List.setIfInBounds_toArray, List.set_cons_zero, List.set_cons_succ]
      refine wpAnyX_takeD (i := 4) (v := .int .i64 k) rfl rfl (by omega) (by kernel_rfl) (by kernel_rfl) (by kernel_rfl) (by kernel_rfl) (fun _ _ _ h => h) (by rfl) ?_ (HK.out _ BD) ?_
      · intro W hSw
        try dsimp only at hSw
        obtain ⟨s0, s1, s2, s3, s4, s5, s6, s7⟩ := hSw
        go_simp
      try simp only [Act.put, List.setIfInBounds_toArray, List.set_cons_zero, List.set_cons_succ]
      refine wpAnyX_takeD (i := 5) (v := .slice Ab k cb) rfl rfl (by omega) (by kernel_rfl) (by kernel_rfl) (by kernel_rfl) (by kernel_rfl) (fun _ _ _ h => h) (by rfl) ?_ (HK.out _ BD) ?_
      · intro W hSw
        try dsimp only at hSw
        obtain ⟨s0, s1, s2, s3, s4, s5, s6, s7⟩ := hSw
        go_simp
      try simp only [Act.put, List.setIfInBounds_toArray, List.set_cons_zero, List.set_cons_succ]
      refine wpAnyX_takeD (i := 7) (v := .agg #[.int .i64 x.f, .int .i64 x.t, .int .u32 x.a, .int .u32 x.m, .int .u32 x.x, .int .u32 x.k]) rfl rfl (by omega) (by kernel_rfl) (by kernel_rfl) (by kernel_rfl) (by kernel_rfl) (fun _ _ _ h => h) (by rfl) ?_ (HK.out _ BD) ?_
      · intro W hSw
        try dsimp only at hSw
        obtain ⟨s0, s1, s2, s3, s4, s5, s6, s7⟩ := hSw
        go_simp
      try simp only [Act.put, List.setIfInBounds_toArray, List.set_cons_zero, List.set_cons_succ]
      refine wpAnyX_takeD (i := 10) (v := .pointer (some ⟨w.heap.size, 1, none⟩)) rfl rfl (by omega) (by kernel_rfl) (by kernel_rfl) (by kernel_rfl) (by kernel_rfl) (fun _ _ _ h => h) (by rfl) ?_ (HK.out _ BD) ?_
      · intro W hSw
        try dsimp only at hSw
        obtain ⟨s0, s1, s2, s3, s4, s5, s6, s7⟩ := hSw
        go_simp
      try simp only [Act.put, List.setIfInBounds_toArray, List.set_cons_zero, List.set_cons_succ]
      refine wpAnyX_takeD (i := 11) (v := .slice Ab m cb) rfl rfl (by omega) (by kernel_rfl) (by kernel_rfl) (by kernel_rfl) (by kernel_rfl) (fun _ _ _ h => h) (by rfl) ?_ (HK.out _ BD) ?_
      · intro W hSw
        try dsimp only at hSw
        obtain ⟨s0, s1, s2, s3, s4, s5, s6, s7⟩ := hSw
        go_simp
      try simp only [Act.put, List.setIfInBounds_toArray, List.set_cons_zero, List.set_cons_succ]
      refine wpAnyX_takeD (i := 12) (v := .int .i64 k) rfl rfl (by omega) (by kernel_rfl) (by kernel_rfl) (by kernel_rfl) (by kernel_rfl) (fun _ _ _ h => h) (by rfl) ?_ (HK.out _ BD) ?_
      · intro W hSw
        try dsimp only at hSw
        obtain ⟨s0, s1, s2, s3, s4, s5, s6, s7⟩ := hSw
        go_simp
      try simp only [Act.put, List.setIfInBounds_toArray, List.set_cons_zero, List.set_cons_succ]
      refine wpAnyX_takeD (i := 13) (v := .slice AB (m - k) (cb - k)) rfl rfl (by omega) (by kernel_rfl) (by kernel_rfl) (by kernel_rfl) (by kernel_rfl) (fun _ _ _ h => h) (by rfl) ?_ (HK.out _ BD) ?_
      · intro W hSw
        try dsimp only at hSw
        obtain ⟨s0, s1, s2, s3, s4, s5, s6, s7⟩ := hSw
        go_simp
        rw [HAB.out]
      try simp only [Act.put, List.setIfInBounds_toArray, List.set_cons_zero, List.set_cons_succ]
      refine wpAnyX_ready (rs := [6, 8]) (by kernel_rfl) (by simp) ?_
      refine AllReadyX.cons rfl (fun K hK => ?_) ?_
      · refine step_append_rd16 rfl (by rfl) _ _ _ (by rfl) w2.heap.size 57 i0 _ 6 32 Tryz.underlying33 hi0 hz0 hz1 hz2 rfl (by omega) (.slice none 0 0) 0 [] (by rfl) (World.ownsRow_nil w2.drew _ _ _) k cb (erC (le.take k)) (by rfl) HTK.out (rd_upto (HRD.out _ BD)) (erC_one _) L0.out L1.out BD.size ?_
        intro A3 c3 w3 o3 g3 a3
        simp only [Nat.zero_add, List.nil_append] at o3 ⊢
        have bq3 : Below w2.heap.size w2 w3 := BD.trans ((Below.refl w2.drew.heap.size w2.drew).grown g3 (Nat.le_refl _) (fun q e => by cases e))
        have hr3 := Rd.newL w3 57 #[.int .i64 x.f, .int .i64 x.t, .int .u32 x.a, .int .u32 x.m, .int .u32 x.x, .int .u32 x.k] [.int .i64 x.f, .int .i64 x.t, .int .u32 x.a, .int .u32 x.m, .int .u32 x.x, .int .u32 x.k] rfl
        have ow3 := o3.alloc (.cells #[.int .i64 x.f, .int .i64 x.t, .int .u32 x.a, .int .u32 x.m, .int .u32 x.x, .int .u32 x.k] 57)
        have bs3 := balloc bq3 (.cells #[.int .i64 x.f, .int .i64 x.t, .int .u32 x.a, .int .u32 x.m, .int .u32 x.x, .int .u32 x.k] 57)
        refine hK _ _ (fun _ => HK.out _ bq3) ?_
        clear hK K
        try simp only [Act.put, List.setIfInBounds_toArray, List.set_cons_zero, List.set_cons_succ]
        refine wpAnyX_ready (rs := [8]) (by kernel_rfl) (by simp) ?_
        refine AllReadyX.cons rfl (fun K hK => ?_) AllReadyX.nil
        refine step_one rfl (by rfl) _ 57 _ (by rfl) i0 _ (.agg #[.int .i64 x.f, .int .i64 x.t, .int .u32 x.a, .int .u32 x.m, .int .u32 x.x, .int .u32 x.k]) #[.int .i64 x.f, .int .i64 x.t, .int .u32 x.a, .int .u32 x.m, .int .u32 x.x, .int .u32 x.k] Tryz.underlying33 hi0 hz0 hz1 (by rfl) (by kernel_rfl) ?_
        refine hK _ _ (fun _ => HK.out _ (balloc bq3 _)) ?_
        clear hK K
        try simp only [Act.put, List.setIfInBounds_toArray, List.set_cons_zero, List.set_cons_succ]
        refine wpAnyX_ready (rs := [9]) (by kernel_rfl) (by simp) ?_
        refine AllReadyX.cons rfl (fun K hK => ?_) AllReadyX.nil
        refine step_append_rd16 rfl (by rfl) _ _ _ (by rfl) w2.heap.size 57 i0 _ 6 32 Tryz.underlying33 hi0 hz0 hz1 hz2 rfl (by omega) (.slice A3 k c3) k (erC (le.take k)) (by rfl) ow3 1 1 [.int .i64 x.f, .int .i64 x.t, .int .u32 x.a, .int .u32 x.m, .int .u32 x.x, .int .u32 x.k] (by rfl) rfl hr3 (by simp [Value.oneCell']) L2.out L3.out bs3.size ?_
        intro A4 c4 w4 o4 g4 a4
        have bq4 : Below w2.heap.size w2 w4 := bs3.grown g4 bs3.size (own_base o3)
        refine hK _ _ (fun _ => HK.out _ bq4) ?_
        clear hK K
        try simp only [Act.put, List.setIfInBounds_toArray, List.set_cons_zero, List.set_cons_succ]
        refine wpAnyX_ready (rs := [14]) (by kernel_rfl) (by simp) ?_
        refine AllReadyX.cons rfl (fun K hK => ?_) AllReadyX.nil
        refine step_append_rd16 rfl (by rfl) _ _ _ (by rfl) w2.heap.size 57 i0 _ 6 32 Tryz.underlying33 hi0 hz0 hz1 hz2 rfl (by omega) (.slice A4 (k + 1) c4) (k + 1) (erC (le.take k) ++ [.int .i64 x.f, .int .i64 x.t, .int .u32 x.a, .int .u32 x.m, .int .u32 x.x, .int .u32 x.k]) (by rfl) o4 (m - k) (cb - k) (erC (le.drop k)) (by rfl) HTD.out (HRF.out _ bq4) (erC_one _) L4.out L5.out bq4.size ?_
        intro A5 c5 w5 o5 g5 a5
        have bq5 : Below w2.heap.size w2 w5 := bq4.grown g5 bq4.size (own_base o4)
        have e5 : w5.cell? ⟨bm, 1, none⟩ = some (.slice none 0 0) := (bq5.cell (p := ⟨bm, 1, none⟩) HLT.out).trans HCM.out
        have e6 := (bq5.frozen (p := ⟨bm, 1, none⟩) HLT.out).trans HFM.out
        refine hK _ _ (fun _ => HK.out _ bq5) ?_
        clear hK K
        try simp only [Act.put, List.setIfInBounds_toArray, List.set_cons_zero, List.set_cons_succ]
        refine wpAnyX_takeD (i := 15) (v := .pointer (some ⟨bm, 1, none⟩)) rfl rfl (by omega) (by kernel_rfl) (by kernel_rfl) (by kernel_rfl) (by kernel_rfl) (fun _ _ _ h => h) (by rfl) ?_ (HK.out _ bq5) ?_
        · intro W hSw
          try dsimp only at hSw
          obtain ⟨s0, s1, s2, s3, s4, s5, s6, s7⟩ := hSw
          go_simp
        try simp only [Act.put, List.setIfInBounds_toArray, List.set_cons_zero, List.set_cons_succ]
        refine wpAnyX_ready (rs := [16]) (by kernel_rfl) (by simp) ?_
        refine AllReadyX.cons rfl (fun K hK => ?_) AllReadyX.nil
        go_simp
        refine hK _ _ (fun h => absurd rfl h) ?_
        refine wpAnyX_done (by kernel_rfl) ?_ _
        go_wp2_with fail
        go_meet
        exact more_fin hkm HBM.out HLT.out H2.out.1 H2.out.2.1 H2.out.2.2.1 H2.out.2.2.2.1 H2.out.2.2.2.2 bq5 o5
      · refine AllReadyX.cons rfl (fun K hK => ?_) AllReadyX.nil
        refine step_one rfl (by rfl) _ 57 _ (by rfl) i0 _ (.agg #[.int .i64 x.f, .int .i64 x.t, .int .u32 x.a, .int .u32 x.m, .int .u32 x.x, .int .u32 x.k]) #[.int .i64 x.f, .int .i64 x.t, .int .u32 x.a, .int .u32 x.m, .int .u32 x.x, .int .u32 x.k] Tryz.underlying33 hi0 hz0 hz1 (by rfl) (by kernel_rfl) ?_
        change K _ (w2.alloc (.cells #[.int .i64 x.f, .int .i64 x.t, .int .u32 x.a, .int .u32 x.m, .int .u32 x.x, .int .u32 x.k] 57)).drew
        refine hK _ _ (fun _ => HK.out _ BA) ?_
        clear hK K
        try simp only [Act.put, List.setIfInBounds_toArray, List.set_cons_zero, List.set_cons_succ]
        refine wpAnyX_ready (rs := [6]) (by kernel_rfl) (by simp) ?_
        refine AllReadyX.cons rfl (fun K hK => ?_) AllReadyX.nil
        refine step_append_rd16 rfl (by rfl) _ _ _ (by rfl) w2.heap.size 57 i0 _ 6 32 Tryz.underlying33 hi0 hz0 hz1 hz2 rfl (by omega) (.slice none 0 0) 0 [] (by rfl) (World.ownsRow_nil (w2.alloc (.cells #[.int .i64 x.f, .int .i64 x.t, .int .u32 x.a, .int .u32 x.m, .int .u32 x.x, .int .u32 x.k] 57)).drew _ _ _) k cb (erC (le.take k)) (by rfl) HTK.out (rd_upto (HRD.out _ BA)) (erC_one _) L0.out L1.out BA.size ?_
        intro A3 c3 w3 o3 g3 a3
        simp only [Nat.zero_add, List.nil_append] at o3 ⊢
        have bg3 := (Below.refl (w2.alloc (.cells #[.int .i64 x.f, .int .i64 x.t, .int .u32 x.a, .int .u32 x.m, .int .u32 x.x, .int .u32 x.k] 57)).drew.heap.size (w2.alloc (.cells #[.int .i64 x.f, .int .i64 x.t, .int .u32 x.a, .int .u32 x.m, .int .u32 x.x, .int .u32 x.k] 57)).drew).grown g3 (Nat.le_refl _) (fun q e => by cases e)
        have bq3 : Below w2.heap.size w2 w3 := BA.trans (bg3.mono BA.size)
        have hr3 := (HRN.out.more (B' := (w2.alloc (.cells #[.int .i64 x.f, .int .i64 x.t, .int .u32 x.a, .int .u32 x.m, .int .u32 x.x, .int .u32 x.k] 57)).drew.heap.size) (by simp)).below bg3
        have ow3 := o3
        have bs3 := bq3
        refine hK _ _ (fun _ => HK.out _ bq3) ?_
        clear hK K
        try simp only [Act.put, List.setIfInBounds_toArray, List.set_cons_zero, List.set_cons_succ]
        refine wpAnyX_ready (rs := [9]) (by kernel_rfl) (by simp) ?_
        refine AllReadyX.cons rfl (fun K hK => ?_) AllReadyX.nil
        refine step_append_rd16 rfl (by rfl) _ _ _ (by rfl) w2.heap.size 57 i0 _ 6 32 Tryz.underlying33 hi0 hz0 hz1 hz2 rfl (by omega) (.slice A3 k c3) k (erC (le.take k)) (by rfl) ow3 1 1 [.int .i64 x.f, .int .i64 x.t, .int .u32 x.a, .int .u32 x.m, .int .u32 x.x, .int .u32 x.k] (by rfl) rfl hr3 (by simp [Value.oneCell']) L2.out L3.out bs3.size ?_
        intro A4 c4 w4 o4 g4 a4
        have bq4 : Below w2.heap.size w2 w4 := bs3.grown g4 bs3.size (own_base o3)
        refine hK _ _ (fun _ => HK.out _ bq4) ?_
        clear hK K
        try simp only [Act.put, List.setIfInBounds_toArray, List.set_cons_zero, List.set_cons_succ]
        refine wpAnyX_ready (rs := [14]) (by kernel_rfl) (by simp) ?_
        refine AllReadyX.cons rfl (fun K hK => ?_) AllReadyX.nil
        refine step_append_rd16 rfl (by rfl) _ _ _ (by rfl) w2.heap.size 57 i0 _ 6 32 Tryz.underlying33 hi0 hz0 hz1 hz2 rfl (by omega) (.slice A4 (k + 1) c4) (k + 1) (erC (le.take k) ++ [.int .i64 x.f, .int .i64 x.t, .int .u32 x.a, .int .u32 x.m, .int .u32 x.x, .int .u32 x.k]) (by rfl) o4 (m - k) (cb - k) (erC (le.drop k)) (by rfl) HTD.out (HRF.out _ bq4) (erC_one _) L4.out L5.out bq4.size ?_
        intro A5 c5 w5 o5 g5 a5
        have bq5 : Below w2.heap.size w2 w5 := bq4.grown g5 bq4.size (own_base o4)
        have e5 : w5.cell? ⟨bm, 1, none⟩ = some (.slice none 0 0) := (bq5.cell (p := ⟨bm, 1, none⟩) HLT.out).trans HCM.out
        have e6 := (bq5.frozen (p := ⟨bm, 1, none⟩) HLT.out).trans HFM.out
        refine hK _ _ (fun _ => HK.out _ bq5) ?_
        clear hK K
        try simp only [Act.put, List.setIfInBounds_toArray, List.set_cons_zero, List.set_cons_succ]
        refine wpAnyX_takeD (i := 15) (v := .pointer (some ⟨bm, 1, none⟩)) rfl rfl (by omega) (by kernel_rfl) (by kernel_rfl) (by kernel_rfl) (by kernel_rfl) (fun _ _ _ h => h) (by rfl) ?_ (HK.out _ bq5) ?_
        · intro W hSw
          try dsimp only at hSw
          obtain ⟨s0, s1, s2, s3, s4, s5, s6, s7⟩ := hSw
          go_simp
        try simp only [Act.put, List.setIfInBounds_toArray, List.set_cons_zero, List.set_cons_succ]
        refine wpAnyX_ready (rs := [16]) (by kernel_rfl) (by simp) ?_
        refine AllReadyX.cons rfl (fun K hK => ?_) AllReadyX.nil
        go_simp
        refine hK _ _ (fun h => absurd rfl h) ?_
        refine wpAnyX_done (by kernel_rfl) ?_ _
        go_wp2_with fail
        go_meet
        exact more_fin hkm HBM.out HLT.out H2.out.1 H2.out.2.1 H2.out.2.2.1 H2.out.2.2.2.1 H2.out.2.2.2.2 bq5 o5
  case rest =>
    obtain ⟨A5, c5, h1, h2, ym, hrm, hdc, hxc, b0, b2⟩ := hcut
    have hlm : (moreL le k x).length = m + 1 := by rw [moreL_len (by rw [HLE.out]; exact hkm), HLE.out]
    have HLM := Lib.hid hlm
    have HFM2 := Lib.hid (moreL_fit (k := k) HFE.out HFX.out)
    have ML := Lib.hid (more_law cm le k x)
    have AL := Lib.hid (all_law cm le)
    generalize moreL le k x = lm at *
    have HT1 := Lib.hid (gtells_any cm le m cb HLE.out Ab wc ((HRB.out.below b0).more b0.size) HFE.out (by omega))
    have d0 := (hdc).cell 0
    have d1 := (hdc).cell 1
    simp only [List.getElem?_toArray, List.getElem?_cons_zero, List.getElem?_cons_succ] at d0 d1
    have Z1 := Lib.hid (And.intro ym (And.intro hrm (And.intro hdc (And.intro hxc (And.intro b0 b2)))))
    clear ym hrm hdc hxc b0 b2 hlm H2 HRD HSC HCM HFM HRN BD BA BDA cm1 HTK HTD L0 L1 L2 L3 L4 L5 HLT hz0 hz1 hz2 hi0
    go_wp2_with fail
    refine HT1.out.mono ?_
    rintro e w6 ⟨A7, c7, rfl, q1, q2, q3, b6⟩
    obtain ⟨ym, hrm, hdc, hxc, b0, b2⟩ := Z1.out
    clear Z1 HT1 d0 d1
    replace b2 := b2.trans (b6.mono (Nat.le_of_lt ym.lt))
    replace ym := ym.below b6 ym.lt
    replace hdc := hdc.below b6 hdc.lt
    replace hxc := hxc.below b6 hxc.lt
    replace hrm := (hrm.below b6).more b6.size
    replace b0 := bnext b0 b6
    have HT2 := Lib.hid (gtells_any cm lm (m + 1) c5 HLM.out A5 w6 hrm HFM2.out (by omega))
    have y0 := (ym).cell 0
    have y1 := (ym).cell 1
    simp only [List.getElem?_toArray, List.getElem?_cons_zero, List.getElem?_cons_succ] at y0 y1
    have Z2 := Lib.hid (And.intro ym (And.intro hrm (And.intro hdc (And.intro hxc (And.intro b0 (And.intro b2 q3))))))
    clear ym hrm hdc hxc b0 b2 q3 b6
    go_wp2_with fail
    refine HT2.out.mono ?_
    rintro e w7 ⟨A8, c8, rfl, q4, q5, q6, b7⟩
    obtain ⟨ym, hrm, hdc, hxc, b0, b2, q3⟩ := Z2.out
    clear Z2 HT2 y0 y1
    replace b2 := b2.trans (b7.mono (Nat.le_of_lt ym.lt))
    replace ym := ym.below b7 ym.lt
    replace hdc := hdc.below b7 hdc.lt
    replace hxc := hxc.below b7 hxc.lt
    replace hrm := (hrm.below b7).more b7.size
    replace q3 := (q3.below b7).more b7.size
    replace b0 := bnext b0 b7
    have hp1 : (tlsC cm le).length ≤ 9223372036854775807 := by omega
    have HTD := Lib.hid (fun W (h : Below w7.heap.size w7 W) => told_any16 (tlsC cm le) (tlsC cm lm) _ _ c7 c8 _ _ rfl rfl A7 A8 W (q3.below h) (q6.below h) hp1)
    have HWY := Lib.hid (fun W => refWhy_any x.f x.t x.a x.m x.x x.k W HFX.out.1 HFX.out.2.1 HFX.out.2.2.1 HFX.out.2.2.2)
    have hwy : whyF x.f x.a x.m x.x x.k = whyE x := rfl
    rw [hwy] at HWY
    have d0 := (hdc).cell 0
    have d1 := (hdc).cell 1
    simp only [List.getElem?_toArray, List.getElem?_cons_zero, List.getElem?_cons_succ] at d0 d1
    have x0 := (hxc).cell 0
    have x1 := (hxc).cell 1
    have x2 := (hxc).cell 2
    have x3 := (hxc).cell 3
    have x4 := (hxc).cell 4
    have x5 := (hxc).cell 5
    simp only [List.getElem?_toArray, List.getElem?_cons_zero, List.getElem?_cons_succ] at x0 x1 x2 x3 x4 x5
    have hn1 : (lfsC cm le).length ≤ 1000 := by
      unfold lfsC
      split
      · have := lfs_le le; rw [HLE.out] at this; omega
      · simp
    have hp1' : (tlsC cm le).length ≤ 1000 := by
      unfold tlsC
      split
      · have := tls_le le; rw [HLE.out] at this; omega
      · simp
    have Z3 := Lib.hid (And.intro ym (And.intro hrm (And.intro hdc (And.intro hxc (And.intro b0 b2)))))
    clear ym hrm hdc hxc b0 b2 q3 q6 b7 q1 q2 q4 q5 hp1 hwy
    generalize hy : whyE x = yy at *
    have HY := Lib.hid hy
    clear hy
    generalize hn1' : (lfsC cm le).length = n1 at *
    generalize (lfsC cm lm).length = n2 at *
    generalize hl1 : tlsC cm le = t1 at *
    generalize tlsC cm lm = t2 at *
    have hl1' : t1.length ≤ 1000 := hp1'
    clear hl1 hn1'
    have hw1 : IntKind.i64.wrap ((n1 : Int) + 1) = (n1 : Int) + 1 := IntWalk.i64_in _ ⟨by omega, by omega⟩
    have hw2 : IntKind.i64.wrap ((t1.length : Int) + 1) = (t1.length : Int) + 1 := IntWalk.i64_in _ ⟨by omega, by omega⟩
    go_upto_region 8 with fail
    go_cut [125] from 83 to 126 (fun v wx => v = .bool false ∧ Below w7.heap.size w7 wx)
    case first =>
      as_aux_lemma =>
        by_cases hyy : yy = 0
        case neg =>
          have g7 : ((yy : Int) != 0) = true := by simp; omega
          have g8 : ((yy : Int) == 0) = false := by simp; omega
          have ht : t1 = t2 := ((ML.out.1 hyy).1).symm
          have HTD2 : Hid (∀ W, Below w7.heap.size w7 W → Calls Tryz.prog 17 #[.slice A7 t1.length c7, .slice A8 t2.length c8] W fun e w' => e = .returned (.bool true) ∧ ∃ m, w' = W.drewN m) := Lib.hid (fun W h => by
            have q := HTD.out W h
            rw [decide_eq_true ht] at q
            exact q)
          cases h2 : (cm == 2)
          case' true => have g9 : ((n2 : Int) != (n1 : Int) + 1) = false := by rw [(ML.out.1 hyy).2 (by simpa using h2)]; simp
          all_goals
            clear ML AL HTD ht hyy hp1' hl1'
            go_wp2_with fail
            refine (HWY.out _).mono ?_
            rintro e u1 ⟨rfl, bu1⟩
            have k0 := (bu1.cell (p := ⟨w.heap.size, 0, none⟩) (by have := Z3.out.2.2.1.lt; exact this)).trans d0
            replace x0 := (bu1.cell (p := ⟨w.heap.size + 1, 0, none⟩) Z3.out.2.2.2.1.lt).trans x0
            replace x1 := (bu1.cell (p := ⟨w.heap.size + 1, 1, none⟩) Z3.out.2.2.2.1.lt).trans x1
            replace x2 := (bu1.cell (p := ⟨w.heap.size + 1, 2, none⟩) Z3.out.2.2.2.1.lt).trans x2
            replace x3 := (bu1.cell (p := ⟨w.heap.size + 1, 3, none⟩) Z3.out.2.2.2.1.lt).trans x3
            replace x4 := (bu1.cell (p := ⟨w.heap.size + 1, 4, none⟩) Z3.out.2.2.2.1.lt).trans x4
            replace x5 := (bu1.cell (p := ⟨w.heap.size + 1, 5, none⟩) Z3.out.2.2.2.1.lt).trans x5
            go_wp2_with fail
            refine (HTD2.out _ bu1).mono ?_
            rintro e u2 ⟨rfl, nq, rfl⟩
            have k1 : (u1.drewN nq).cell? ⟨w.heap.size, 0, none⟩ = some (.int .i64 cm) := k0
            have x0' : (u1.drewN nq).cell? ⟨w.heap.size + 1, 0, none⟩ = some (.int .i64 x.f) := x0
            have x1' : (u1.drewN nq).cell? ⟨w.heap.size + 1, 1, none⟩ = some (.int .i64 x.t) := x1
            have x2' : (u1.drewN nq).cell? ⟨w.heap.size + 1, 2, none⟩ = some (.int .u32 x.a) := x2
            have x3' : (u1.drewN nq).cell? ⟨w.heap.size + 1, 3, none⟩ = some (.int .u32 x.m) := x3
            have x4' : (u1.drewN nq).cell? ⟨w.heap.size + 1, 4, none⟩ = some (.int .u32 x.x) := x4
            have x5' : (u1.drewN nq).cell? ⟨w.heap.size + 1, 5, none⟩ = some (.int .u32 x.k) := x5
            go_wp2_with fail
            refine (HWY.out _).mono ?_
            rintro e u3 ⟨rfl, bu3⟩
            go_wp2_with fail
            go_meet
            exact ⟨rfl, bnext (below_drewN bu1 nq) bu3⟩
        case pos =>
          subst hyy
          cases h2 : (cm == 2)
          case' true =>
            have g9 : ((n2 : Int) != (n1 : Int)) = false := by rw [(ML.out.2 rfl (by simpa using h2)).1]; simp
            have g10 : ((t2.length : Int) != (t1.length : Int) + 1) = false := by rw [(ML.out.2 rfl (by simpa using h2)).2]; simp
          all_goals
            clear ML AL HTD hp1' hl1'
            go_wp2_with fail
            refine (HWY.out _).mono ?_
            rintro e u1 ⟨rfl, bu1⟩
            have k0 := (bu1.cell (p := ⟨w.heap.size, 0, none⟩) (by have := Z3.out.2.2.1.lt; exact this)).trans d0
            replace x0 := (bu1.cell (p := ⟨w.heap.size + 1, 0, none⟩) Z3.out.2.2.2.1.lt).trans x0
            replace x1 := (bu1.cell (p := ⟨w.heap.size + 1, 1, none⟩) Z3.out.2.2.2.1.lt).trans x1
            replace x2 := (bu1.cell (p := ⟨w.heap.size + 1, 2, none⟩) Z3.out.2.2.2.1.lt).trans x2
            replace x3 := (bu1.cell (p := ⟨w.heap.size + 1, 3, none⟩) Z3.out.2.2.2.1.lt).trans x3
            replace x4 := (bu1.cell (p := ⟨w.heap.size + 1, 4, none⟩) Z3.out.2.2.2.1.lt).trans x4
            replace x5 := (bu1.cell (p := ⟨w.heap.size + 1, 5, none⟩) Z3.out.2.2.2.1.lt).trans x5
            go_wp2_with fail
            refine (HWY.out _).mono ?_
            rintro e u3 ⟨rfl, bu3⟩
            have k1 := (bu3.cell (p := ⟨w.heap.size, 0, none⟩) (by have := Z3.out.2.2.1.lt; have := bu1.size; show w.heap.size < _; omega)).trans k0
            go_wp2_with fail
            go_meet
            exact ⟨rfl, bnext bu1 bu3⟩
    case rest =>
      obtain ⟨rfl, bw⟩ := hcut
      clear x0 x1 x2 x3 x4 x5 HTD HWY d0 d1
      obtain ⟨ym, hrm, hdc, hxc, b0, b2⟩ := Z3.out
      clear Z3
      replace b2 := b2.trans (bw.mono (Nat.le_of_lt ym.lt))
      replace ym := ym.below bw ym.lt
      replace hdc := hdc.below bw hdc.lt
      replace hrm := (hrm.below bw).more bw.size
      replace b0 := bnext b0 bw
      have d0 := (hdc).cell 0
      have d1 := (hdc).cell 1
      simp only [List.getElem?_toArray, List.getElem?_cons_zero, List.getElem?_cons_succ] at d0 d1
      have Z4 := Lib.hid (And.intro ym (And.intro hrm (And.intro hdc (And.intro b0 b2))))
      clear ym hrm hdc hxc b0 b2 bw
      go_upto_region 10 with fail
      go_cut [138] from 126 to 139 (fun v wx => v = .bool false ∧ wx = wc)
      case first =>
        cases h2 : (cm == 2)
        case' true =>
          have g9 : (((t1.length : Int) + (n1 : Int)) != (m : Int)) = false := by
            have hh := AL.out (by simpa using h2)
            rw [HLE.out] at hh
            simp only [bne_eq_false_iff_eq]
            omega
          have hw3 : IntKind.i64.wrap ((t1.length : Int) + (n1 : Int)) = (t1.length : Int) + (n1 : Int) := IntWalk.i64_in _ ⟨by omega, by omega⟩
        all_goals
          go_wp2_with fail
          go_meet
          exact ⟨rfl, rfl⟩
      case rest =>
        obtain ⟨rfl, hwc⟩ := hcut
        subst hwc
        rcases HSE.out with ⟨rfl, g, v, rfl, hF0⟩ | ⟨hE, rfl⟩
        case inr =>
          have g12 : (E != 0) = true := by simpa using hE
          have BB := Z4.out.2.2.2.1
          clear hE
          go_wp2_with (go_at_call 13; refine (num_any _ _).mono ?_; rintro e w' ⟨rfl, rfl⟩)
          refine (HW.out _ BB).mono ?_
          rintro e w9 ⟨rfl, b9⟩
          go_wp2_with fail
          go_ret
          exact ⟨rfl, bnext BB b9⟩
        case inl =>
          obtain ⟨ym, hrm, hdc, b0, b2⟩ := Z4.out
          have HF := Lib.hid (hF0.below (show Below w1.heap.size w1 wc from by rw [HBE.out] at b2; exact b2))
          have HEN := Lib.hid (refencode5_any cm le m cb HLE.out Ab wc ((HRB.out.below b0).more b0.size) HFE.out hmc)
          have Z5 := Lib.hid (And.intro ym (And.intro hrm (And.intro b0 b2)))
          clear Z4 ym hrm hdc b0 b2 hF0
          go_wp2_with (go_at_call 13; refine (num_any _ _).mono ?_; rintro e w' ⟨rfl, rfl⟩)
          refine HEN.out.mono ?_
          rintro e w10 ⟨A10, c10, rfl, r1, r2, r3, b10⟩
          obtain ⟨ym, hrm, b0, b2⟩ := Z5.out
          clear Z5 HEN d0 d1
          have HF2 := Lib.hid (HF.out.below b10)
          replace ym := ym.below b10 ym.lt
          replace hrm := (hrm.below b10).more b10.size
          replace b0 := bnext b0 b10
          have HEN2 := Lib.hid (refencode5_any cm lm (m + 1) c5 HLM.out A5 w10 hrm HFM2.out ⟨h1, h2⟩)
          have y0 := (ym).cell 0
          have y1 := (ym).cell 1
          simp only [List.getElem?_toArray, List.getElem?_cons_zero, List.getElem?_cons_succ] at y0 y1
          have Z6 := Lib.hid (And.intro r3 b0)
          clear ym hrm b0 b2 r3 b10 HF
          go_wp2_with fail
          refine HEN2.out.mono ?_
          rintro e w11 ⟨A11, c11, rfl, r4, r5, r6, b11⟩
          obtain ⟨r3, b0⟩ := Z6.out
          clear Z6 HEN2 y0 y1
          have HF3 := Lib.hid (HF2.out.below b11)
          replace r3 := (r3.below b11).more b11.size
          replace b0 := bnext b0 b11
          clear HF2 b11
          by_cases hE1 : encE cm le = 0
          case neg =>
            have g13 : (encE cm le != 0) = true := by simpa using hE1
            have BB := b0
            clear hE1 r3 r6
            go_wp2_with fail
            refine (HW.out _ BB).mono ?_
            rintro e w9 ⟨rfl, b9⟩
            go_wp2_with fail
            go_ret
            exact ⟨rfl, bnext BB b9⟩
          by_cases hE2 : encE cm lm = 0
          case neg =>
            have g13 : (encE cm le != 0) = false := by simpa using hE1
            have g14 : (encE cm lm != 0) = true := by simpa using hE2
            have BB := b0
            clear hE1 hE2 r3 r6
            go_wp2_with fail
            refine (HW.out _ BB).mono ?_
            rintro e w9 ⟨rfl, b9⟩
            go_wp2_with fail
            go_ret
            exact ⟨rfl, bnext BB b9⟩
          have HLK1 := Lib.hid (look_enc (fromFE l i a) hE1 HFE.out)
          have HLK2 := Lib.hid (look_enc (fromFE l i a) hE2 HFM2.out)
          have HC1 := Lib.hid (look_any HF3.out i a ha (encB cm le) _ rfl A10 c10 (HWD.out.below b0) r3 r1 r2)
          rw [hE1, hE2]
          have Z7 := Lib.hid (And.intro r6 b0)
          clear hE1 hE2 r3 r6 b0
          generalize encB cm le = e1 at *
          generalize encB cm lm = e2 at *
          go_wp2_with fail
          refine HC1.out.mono ?_
          rintro e w12 ⟨A12, c12, rfl, -, -, -, b12⟩
          obtain ⟨r6, b0⟩ := Z7.out
          rw [HLK1.out]
          generalize (lookL (fromFE l i a) e1).length = ln1
          generalize lookC (fromFE l i a) e1 = lc1
          replace b12 := balloc b12 (.cells #[.int .i64 lc1, .slice A12 ln1 c12] 35)
          have HF4 := Lib.hid (HF3.out.below b12)
          replace r6 := (r6.below b12).more b12.size
          replace b0 := bnext b0 b12
          have HC2 := Lib.hid (look_any HF4.out i a ha e2 _ rfl A11 c11 (HWD.out.below b0) r6 r4 r5)
          have HB0 := Lib.hid b0
          clear r6 b0 b12 Z7 HC1 HF3
          go_wp2_with fail
          refine HC2.out.mono ?_
          rintro e w13 ⟨A13, c13, rfl, -, -, -, b13⟩
          rw [HLK2.out]
          generalize (lookL (fromFE l i a) e2).length = ln2
          generalize lookC (fromFE l i a) e2 = lc2
          have BB := balloc (bnext HB0.out b13) (.cells #[.int .i64 lc2, .slice A13 ln2 c13] 35)
          clear b13 HC2 HLK1 HLK2
          generalize fromFE l i a = fe at *
          have g20 : (fe == fe) = true := by simp
          go_wp2_with (go_at_call 13; refine (num_any _ _).mono ?_; rintro e w' ⟨rfl, rfl⟩)
          refine (HW.out _ BB).mono ?_
          rintro e w9 ⟨rfl, b9⟩
          go_wp2_with fail
          go_ret
          exact ⟨rfl, bnext BB b9⟩
end Go.Proofs.YtlanfceilajifaaGreatDoor
