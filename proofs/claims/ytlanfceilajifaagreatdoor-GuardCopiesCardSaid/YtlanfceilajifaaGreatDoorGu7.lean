/- guard: Left and its iterator; the document's Tells and Left. -/
import Derived.Test.YtlanfceilajifaaGreatDoorGu6
import Derived.Test.YtlanfceilajifaaGreatDoorMB
import Derived.Test.YtlanfceilajifaaGreatDoorMD
namespace Go.Proofs.YtlanfceilajifaaGreatDoor
set_option linter.unusedVariables false
set_option linter.unusedSimpArgs false
open Go.RowKit Go.Shelf
set_option maxRecDepth 100000
/-- places and reasons -/
def ofL (p : Nat × Nat) : List Value := [.int .i64 p.1, .int .i64 p.2]
theorem ofL_len (p : Nat × Nat) : (ofL p).length = 2 := rfl
def ofC (l : List (Nat × Nat)) : List Value := l.flatMap ofL
theorem ofC_len (l : List (Nat × Nat)) : (ofC l).length = l.length * 2 := rows_len ofL_len l
theorem ofC_app (l l' : List (Nat × Nat)) : ofC (l ++ l') = ofC l ++ ofC l' := List.flatMap_append ..
theorem of_at {w : World} {B : Nat} {A : Option Addr} {l : List (Nat × Nat)} (h : Rd w B A (ofC l)) {i : Nat} {x : Nat × Nat} (hi : l[i]? = some x) :
    ∃ b off, A = some ⟨b, off, none⟩ ∧ b < B ∧ w.cell? ⟨b, off + i * 2, none⟩ = some (.int .i64 x.1) ∧ w.cell? ⟨b, off + i * 2 + 1, none⟩ = some (.int .i64 x.2) := by
  have hl : i < l.length := (List.getElem?_eq_some_iff.1 hi).1
  obtain ⟨b, off, hA, hb, hc⟩ := h (by rw [ofC_len]; omega)
  refine ⟨b, off, hA, hb, hc (i * 2) _ (rows_get ofL_len l i x 0 hi (by omega)), ?_⟩
  rw [Nat.add_assoc]
  exact hc _ _ (rows_get ofL_len l i x 1 hi (by omega))
theorem row_info : (Tryz.prog.info? 116).map (fun i => (i.zero, i.size, i.bytes)) = some (some (.agg #[.int .i64 0, .int .i64 0]), 2, 16) := by kernel_rfl
theorem one_info : (Tryz.prog.info? 54).map (fun i => (i.zero, i.size, i.bytes)) = some (some (.agg #[.int .i64 0, .int .i64 0]), 2, 16) := by kernel_rfl

theorem left1_any (a m k : Int) (w : World) :
    Calls Tryz.prog 51 #[.agg #[.int .u32 a, .int .i64 m, .int .i64 k]] w fun e w' => e = .returned (.tuple #[]) ∧ Below w.heap.size w w' := by
  go_enter Tryz.func51, Tryz.ntmps51
  go_wp2_with fail
  go_end0
  exact ⟨rfl, balloc (Below.refl _ _) _⟩

set_option maxHeartbeats 2000000 in
theorem left2_any (n0 b : Nat) (v : Value) (n : Nat) (xs : List Value) (i y : Int) (w : World) (h : Gr w n0 b 114 116 2 v n xs) (hn : n ≤ 1000) (hn0 : n0 ≤ w.heap.size) :
    Calls Tryz.prog 52 #[.int .i64 i, .int .i64 y, .pointer (some ⟨b, 0, none⟩)] w fun e w' => e = .returned (.tuple #[]) ∧ ∃ v', Gr w' n0 b 114 116 2 v' (n + 1) (xs ++ [.int .i64 i, .int .i64 y]) ∧ Fr (fun k => k ≠ b ∧ v.ownBlock ≠ some k) w w' := by
  obtain ⟨i0, hi0, hz0, hz1, hz2⟩ := info_parts row_info
  have B1 : Below w.heap.size w (w.alloc (.cells #[.int .i64 i, .int .i64 y] 116)) := balloc (Below.refl _ _) _
  have c0 := h.blk.cell 0
  simp only [List.getElem?_toArray, List.getElem?_cons_zero] at c0
  have hbl := h.blk.lt
  have H := Lib.hid h
  have HB1 := Lib.hid B1
  have HO := Lib.hid (own_below h.own B1)
  have HNW := Lib.hid (Rd.newL w 116 #[.int .i64 i, .int .i64 y] [.int .i64 i, .int .i64 y] rfl)
  clear h B1
  go_enter Tryz.func52, Tryz.ntmps52
  go_wp2_with (at_builtin; refine wpList_append_rd rfl _ _ 114 rfl n0 116 i0 _ 2 16 Tryz.underlying114 hi0 hz0 hz1 hz2 rfl (by decide) _ n _ rfl HO.out 1 1 [.int .i64 i, .int .i64 y] rfl rfl HNW.out (by simp [Value.oneCell']) (by simp only [maxLen]; omega) (by omega) (by have := HB1.out.size; omega) ?_; intro v' w3 ho3 hg3 ha3; obtain ⟨A4, c4, rfl, -⟩ := own_row ho3; have f3 : Fr (fun k => v.ownBlock ≠ some k) w w3 := (Fr.of_below HB1.out).trans (Fr.grown hg3 (fun b hb => hb)); have e3 := (f3.blk H.out.blk H.out.apart).frozen 0; have c3 : w3.cell? ⟨b, 0, none⟩ = some v := (f3.blk H.out.blk H.out.apart).cell 0; have QQ := Lib.hid (H.out.push HB1.out ho3 hg3 ha3); clear ho3 hg3 ha3 f3)
  go_end0
  exact ⟨rfl, _, QQ.out.1, QQ.out.2⟩

/-- what stands while it is told what is left out -/
structure InL (w0 : World) (bl : Nat) (A : Option Addr) (l : List Er) (i : Nat) (W : World) : Prop where
  base : Below w0.heap.size w0 W
  rd : Rd W w0.heap.size A (erC l)
  row : ∃ v, Gr W w0.heap.size bl 114 116 2 v (lfs (l.take i)).length (ofC (lfs (l.take i)))
  ge : w0.heap.size ≤ bl
theorem InL.below {w0 W W' : World} {bl : Nat} {A : Option Addr} {l : List Er} {i : Nat} (h : InL w0 bl A l i W) (hb : Below W.heap.size W W') : InL w0 bl A l i W' := by
  obtain ⟨v, h1⟩ := h.row
  exact ⟨bnext h.base hb, h.rd.below (hb.mono h.base.size), ⟨v, h1.below hb⟩, h.ge⟩
theorem InL.tell {w0 W : World} {bl : Nat} {A : Option Addr} {l : List Er} {i : Nat} {x : Er} (h : InL w0 bl A l i W) (hx : l[i]? = some x) (hw : whyE x = 0) : InL w0 bl A l (i + 1) W :=
  ⟨h.base, h.rd, by rw [take_snoc hx, lfs_yes hw]; exact h.row, h.ge⟩
theorem InL.leave {w0 W W' : World} {bl : Nat} {A : Option Addr} {l : List Er} {i : Nat} {x : Er} {v v' : Value} (h : InL w0 bl A l i W) (hx : l[i]? = some x) (hw : whyE x ≠ 0) (h1 : Gr W w0.heap.size bl 114 116 2 v (lfs (l.take i)).length (ofC (lfs (l.take i))))
    (g : Gr W' w0.heap.size bl 114 116 2 v' ((lfs (l.take i)).length + 1) (ofC (lfs (l.take i)) ++ [.int .i64 i, .int .i64 (whyE x)])) (f : Fr (fun k => k ≠ bl ∧ v.ownBlock ≠ some k) W W') : InL w0 bl A l (i + 1) W' := by
  have hlt : i < l.length := (List.getElem?_eq_some_iff.1 hx).1
  have e2 : lfs (l.take (i + 1)) = lfs (l.take i) ++ [(i, whyE x)] := by
    rw [take_snoc hx, lfs_no hw, List.length_take, Nat.min_eq_left (by omega)]
  have hlow : ∀ b, b < w0.heap.size → b ≠ bl ∧ v.ownBlock ≠ some b := fun b hb => ⟨fun e => by have := h.ge; omega, fun e => by have := own_base' h1.own b e; omega⟩
  refine ⟨h.base.trans ((f.below h.base.size hlow)), h.rd.below (f.below h.base.size hlow), ⟨v', ?_⟩, h.ge⟩
  rw [e2, List.length_append, ofC_app]
  exact g

/-- what Left hands back: a function over rows in a box -/
def IsLf (w : World) (l : List (Nat × Nat)) (lb : Array Value) : Prop :=
  ∃ b A c, lb = #[.pointer (some ⟨b, 0, none⟩)] ∧ Blk w b 114 #[.slice A l.length c] ∧ l.length ≤ c ∧ c ≤ 9223372036854775807 ∧ Rd w w.heap.size A (ofC l)
theorem IsLf.below {w w' : World} {l : List (Nat × Nat)} {lb : Array Value} (h : IsLf w l lb) (hb : Below w.heap.size w w') : IsLf w' l lb := by
  obtain ⟨b, A, c, e, h2, h3, h4, h5⟩ := h
  exact ⟨b, A, c, e, h2.below hb h2.lt, h3, h4, (h5.below hb).more hb.size⟩

set_option maxHeartbeats 4000000 in
theorem gleft_any (cm : Int) (l : List Er) (n c : Nat) (hn : l.length = n) (A : Option Addr) (w : World) (hr : Rd w w.heap.size A (erC l)) (hf : ∀ e ∈ l, fitR e) (hn3 : n ≤ 1000) :
    Calls Tryz.prog 19 #[.agg #[.int .i64 cm, .slice A n c]] w fun e w' => ∃ lb, e = .returned (.func (.func 53) #[] lb) ∧ IsLf w' (lfsC cm l) lb ∧ Below w.heap.size w w' := by
  have B3 : Below w.heap.size w ((w.alloc (.cells #[.int .i64 cm, .slice A n c] 35)).alloc (.cells #[.slice none 0 0] 114)) := balloc (balloc (Below.refl _ _) _) _
  have yd := (Blk.new w 35 #[.int .i64 cm, .slice A n c]).alloc (.cells #[.slice none 0 0] 114)
  have yl := Blk.new (w.alloc (.cells #[.int .i64 cm, .slice A n c] 35)) 114 #[.slice none 0 0]
  simp only [World.size_alloc] at yl
  obtain ⟨w3, hw3⟩ : ∃ w3, w3 = (w.alloc (.cells #[.int .i64 cm, .slice A n c] 35)).alloc (.cells #[.slice none 0 0] 114) := ⟨_, rfl⟩
  rw [← hw3] at B3 yd yl
  have HW3 := Lib.hid hw3
  clear hw3
  have h0 : InL w (w.heap.size + 1) A l 0 w3 := ⟨B3, hr.below B3, ⟨_, ⟨yl, World.ownsRow_nil _ _ _ _, by simp [Value.ownBlock]⟩⟩, by omega⟩
  have HS := Lib.hid (sift_left cm l n c hn A (.pointer (some ⟨w.heap.size + 1, 0, none⟩)) 51 52 (InL w (w.heap.size + 1) A l) w3 hn3 hf
    (enters_of Tryz.func51 (by kernel_rfl) rfl) (enters_of Tryz.func52 (by kernel_rfl) rfl)
    (fun i W W' h hb => h.below hb) (fun i W h => h.rd.more h.base.size)
    (fun i x W hx hw h => by
      refine (left1_any _ _ _ W).mono ?_
      rintro e w' ⟨rfl, b1⟩
      exact ⟨rfl, (h.tell hx hw).below b1⟩)
    (fun i x W hx hw h => by
      obtain ⟨v, g1⟩ := h.row
      have hlt : i < l.length := (List.getElem?_eq_some_iff.1 hx).1
      refine (left2_any w.heap.size (w.heap.size + 1) v _ _ _ _ W g1 (by have := lfs_le (l.take i); rw [List.length_take] at this; omega) h.base.size).mono ?_
      rintro e w' ⟨rfl, v', k1, k2⟩
      exact ⟨rfl, h.leave hx hw g1 k1 k2⟩) h0)
  have d0 := (yd).cell 0
  have d1 := (yd).cell 1
  simp only [List.getElem?_toArray, List.getElem?_cons_zero, List.getElem?_cons_succ] at d0 d1
  have hmf : ∀ (fn : Fn) (first cap : Array Value) (w : World), (Instr.makeFunc fn first cap).run Tryz.prog w = .ok (.func fn first cap) w := fun _ _ _ _ => rfl
  have HN := Lib.hid hn
  clear hn hr hf B3 yd yl h0
  go_enter Tryz.func19, Tryz.ntmps19
  go_upto_region 2 with fail
  rw [← HW3.out]
  go_wp2_with fail
  refine HS.out.mono ?_
  rintro e w4 ⟨rfl, hI⟩
  obtain ⟨v, g1⟩ := hI.row
  obtain ⟨A4, c4, hv, k1, k2, k3, k4⟩ := own_row g1.own
  subst hv
  have e2 : lfs (l.take (if cm = 2 then n else 0)) = lfsC cm l := by
    unfold lfsC
    split
    · rw [List.take_of_length_le (by rw [HN.out]; exact Nat.le_refl _)]
    · rfl
  rw [e2] at k1 k3
  have hbk := g1.blk
  rw [e2] at hbk
  have KK := Lib.hid (And.intro hbk (And.intro k1 (And.intro k2 (And.intro k3 hI.base))))
  clear g1 hI e2 k1 k2 k3 k4 hbk
  go_wp2_with fail
  go_ret
  exact ⟨_, rfl, ⟨_, A4, c4, rfl, KK.out.1, KK.out.2.1, by have := KK.out.2.2.1; unfold maxLen at this; omega, KK.out.2.2.2.1⟩, KK.out.2.2.2.2⟩

/-- what the iterator hands on -/
def lfA (l : List (Nat × Nat)) (j : Nat) : Nat := (l.getD j (0, 0)).1
def lfB (l : List (Nat × Nat)) (j : Nat) : Nat := (l.getD j (0, 0)).2
def lfEs (l : List (Nat × Nat)) (j : Nat) : Array Value := #[.int .i64 (lfA l j), .int .i64 (lfB l j)]
set_option maxHeartbeats 2000000 in
theorem lf1_in (n : Nat) (hn : 1 ≤ n) (lb Bd n₀ N : Nat) (l : List (Nat × Nat)) (A : Option Addr) (c : Nat) (hN : l.length = N) (hlc : N ≤ c) (hc : c ≤ 9223372036854775807) (hl : N ≤ 1000)
    (J Jx : List Nat → World → Prop) (W : World)
    (hW : AbidesFrom W.heap.size J)
    (hY : ∀ pre x W1, J pre W1 → pre.length < N → YieldAt Fence.wide (n - 1) Tryz.prog lb (lfEs l x) W1 fun e W' =>
      (e = .returned (.bool true) ∧ J (pre ++ [x]) W' ∧ Below n₀ W1 W') ∨ (e = .returned (.bool false) ∧ Jx (pre ++ [x]) W'))
    (hBd : Blk W Bd 114 #[.slice A N c]) (hr : Rd W n₀ A (ofC l)) (h2 : Bd < n₀) (hn0 : n₀ ≤ W.heap.size) (h0 : J [] W) :
    CallsIn Fence.wide n Tryz.prog 53 #[.func (.yield lb) #[] #[], .pointer (some ⟨Bd, 0, none⟩)] W fun e W' => (∃ v, e = .returned v) ∧
      ((∃ ys, ys = List.range N ∧ J ys W') ∨ (∃ pre, (∃ j, j ≤ N ∧ pre = List.range j) ∧ Jx pre W')) := by
  have cl := hBd.cell 0
  simp only [List.getElem?_toArray, List.getElem?_cons_zero] at cl
  have HR := Lib.hid hr
  have HY := Lib.hid hY
  have HJW := Lib.hid hW
  have HN := Lib.hid hN
  clear hr hY hN hW
  refine callsIn_of_wp Tryz.func53 rfl trivial ?_ rfl
  simp only [Tryz.ntmps53, List.size_toArray, List.length_cons, List.length_nil, Nat.reduceAdd, Nat.reduceSub, Array.replicate_succ, Array.replicate_zero, List.push_toArray, List.append_toArray, List.nil_append, List.cons_append]
  gi_wp2
  gi_loopw [7] (fun i wr => ∃ j : Nat, j ≤ N ∧ i = .int .i64 j ∧ J (List.range j) wr ∧ Below n₀ W wr) (fun i _ => N - (intOf i).toNat)
  case atStart => exact ⟨0, Nat.zero_le _, rfl, h0, Below.refl _ _⟩
  case round =>
    obtain ⟨j, hj, rfl, hJ, hb⟩ := hrel
    by_cases hlt : j < N
    · obtain ⟨x, hx⟩ : ∃ x, l[j]? = some x := ⟨l[j]'(by rw [HN.out]; exact hlt), List.getElem?_eq_getElem _⟩
      obtain ⟨b, off, hA, hbB, e0, e1⟩ := of_at (HR.out.below hb) hx
      subst hA
      have hy0 := HY.out (List.range j) j
      have hE : lfEs l j = #[.int .i64 x.1, .int .i64 x.2] := by simp [lfEs, lfA, lfB, List.getD, hx]
      rw [hE] at hy0
      obtain ⟨x1, x2⟩ := x
      simp only at e0 e1 hy0
      have hj3 : (0 : Int) ≤ (j : Int) := by omega
      have hj4 : (j : Int) < (N : Int) := by omega
      have bW1 : Below wr.heap.size wr (wr.alloc (.cells #[.int .i64 x1, .int .i64 x2] 116)) := balloc (Below.refl _ _) _
      obtain ⟨fn, tmps, assign, body, hy, hR⟩ := hy0 _ (HJW.out _ _ _ none hJ (below_none bW1) (by simp)) (by simpa using hlt)
      have HB1 := Lib.hid (hb.trans (bW1.mono (Nat.le_trans hn0 hb.size)))
      clear hy0 hE bW1 hb hJ hx
      gi_wp2_with fail
      refine hR.mono ?_
      rintro e W3 (⟨rfl, hJ3, hk3⟩ | ⟨rfl, hJx3⟩)
      · gi_wp2
        go_roundw
        case rel => exact ⟨j + 1, by omega, by go_num, by rw [List.range_succ]; exact hJ3, HB1.out.trans hk3⟩
        case measure => simp [intOf]; omega
      · gi_wp2
        try simp only [Exit.inBlock, Exit.then]
        refine bodyPost_ret (results_none rfl _ _ _) rfl ?_
        exact ⟨⟨_, rfl⟩, .inr ⟨_, ⟨j + 1, by omega, (List.range_succ).symm⟩, hJx3⟩⟩
    · obtain rfl : j = N := by omega
      gi_wp2_with fail
      go_end0
      exact ⟨⟨_, rfl⟩, .inl ⟨_, rfl, hJ⟩⟩
theorem lf_stops (n : Nat) (hn : 1 ≤ n) (n₀ : Nat) (l : List (Nat × Nat)) (lb : Array Value) (w : World) (hl : l.length ≤ 1000) (w0 : World) (h0 : IsLf w0 l lb) (hb : Below w0.heap.size w0 w) (hn0 : w0.heap.size ≤ n₀) (hn1 : n₀ ≤ w.heap.size) :
    SeqStopsK Fence.wide n Tryz.prog 53 lb (lfEs l) (Below n₀) (fun ys => ys = List.range l.length) (fun pre => ∃ j, j ≤ l.length ∧ pre = List.range j) l.length w := fun lp J Jx W hW hA _ hY hJ0 => by
  have hb2 : Below w0.heap.size w0 W := bnext hb hW
  obtain ⟨Bd, A, c, rfl, h2, h3, h4, h5⟩ := h0
  exact lf1_in n hn lp Bd n₀ l.length l A c rfl h3 h4 hl J Jx W hA hY (h2.below hb2 h2.lt) ((h5.below hb2).more hn0) (Nat.lt_of_lt_of_le h2.lt hn0) (Nat.le_trans hn1 hW.size) hJ0
end Go.Proofs.YtlanfceilajifaaGreatDoor
