/- packet: Each and its iterator. -/
import Derived.Test.YtpadlillbofpnaaDoorPkH
namespace Go.Proofs.YtpadlillbofpnaaDoor
set_option linter.unusedVariables false
set_option linter.unusedSimpArgs false
open Go.RowKit Go.Shelf
attribute [local go_sem] Oper.semAt_some
set_option maxRecDepth 100000
/-- the bytes of the entries that are read -/
def bodB (l : List UInt8) : List UInt8 := if decE l = 0 then l.drop 4 else []
theorem desL_bod (l : List UInt8) : desL l = ersOf (bodB l) := by
  unfold desL bodB
  split <;> rfl
theorem bod_len (l : List UInt8) : (desL l).length = (bodB l).length / 20 := by rw [desL_bod, ersOf_len]
theorem bod_C (l : List UInt8) : erC (desL l) = entC (bodB l) ((bodB l).length / 20) := by rw [desL_bod, entC_ers]

set_option maxHeartbeats 2000000 in
theorem pe1_in (n : Nat) (hn : 1 ≤ n) (lb Bd n₀ N : Nat) (l : List UInt8) (cm : Int) (A : Option Addr) (c : Nat) (hN : l.length / 20 = N) (hlc : N ≤ c) (hc : c ≤ 9223372036854775807) (hl : N ≤ 1000)
    (J Jx : List Nat → World → Prop) (W : World)
    (hW : AbidesFrom W.heap.size J)
    (hY : ∀ pre x W1, J pre W1 → pre.length < N → YieldAt Fence.wide (n - 1) Tryd.prog lb (entEs l x) W1 fun e W' =>
      (e = .returned (.bool true) ∧ J (pre ++ [x]) W' ∧ Below n₀ W1 W') ∨ (e = .returned (.bool false) ∧ Jx (pre ++ [x]) W'))
    (hBd : Blk W Bd 27 #[.int .i64 cm, .slice A N c]) (hr : Rd W n₀ A (entC l N)) (h2 : Bd < n₀) (hn0 : n₀ ≤ W.heap.size) (h0 : J [] W) :
    CallsIn Fence.wide n Tryd.prog 41 #[.func (.yield lb) #[] #[], .pointer (some ⟨Bd, 0, none⟩)] W fun e W' => (∃ v, e = .returned v) ∧
      ((∃ ys, ys = List.range N ∧ J ys W') ∨ (∃ pre, (∃ j, j ≤ N ∧ pre = List.range j) ∧ Jx pre W')) := by
  have cl := hBd.cell 1
  simp only [List.getElem?_toArray, List.getElem?_cons_zero, List.getElem?_cons_succ] at cl
  have HR := Lib.hid hr
  have HY := Lib.hid hY
  have HJW := Lib.hid hW
  clear hr hY hN hW
  refine callsIn_of_wp Tryd.func41 rfl trivial ?_ rfl
  simp only [Tryd.ntmps41, List.size_toArray, List.length_cons, List.length_nil, Nat.reduceAdd, Nat.reduceSub, Array.replicate_succ, Array.replicate_zero, List.push_toArray, List.append_toArray, List.nil_append, List.cons_append]
  refine scope_in ?_
  gi_wp2_with fail
  refine wpIn_label ?_
  gi_wp2
  gi_loopw [8] (fun i wr => ∃ j : Nat, j ≤ N ∧ i = .int .i64 j ∧ J (List.range j) wr ∧ Below n₀ W wr) (fun i _ => N - (intOf i).toNat)
  case atStart => exact ⟨0, Nat.zero_le _, rfl, h0, Below.refl _ _⟩
  case round =>
    obtain ⟨j, hj, rfl, hJ, hb⟩ := hrel
    by_cases hlt : j < N
    · obtain ⟨b, off, hA, hbB, hcell⟩ := (HR.out.below hb) (by rw [entC_len]; omega)
      subst hA
      have e0 := hcell (j * 6 + 0) _ ((entC_get l _ j hlt 0 (by omega)).trans rfl)
      have e1 := hcell (j * 6 + 1) _ ((entC_get l _ j hlt 1 (by omega)).trans rfl)
      have e2 := hcell (j * 6 + 2) _ ((entC_get l _ j hlt 2 (by omega)).trans rfl)
      have e3 := hcell (j * 6 + 3) _ ((entC_get l _ j hlt 3 (by omega)).trans rfl)
      have e4 := hcell (j * 6 + 4) _ ((entC_get l _ j hlt 4 (by omega)).trans rfl)
      have e5 := hcell (j * 6 + 5) _ ((entC_get l _ j hlt 5 (by omega)).trans rfl)
      simp only [← Nat.add_assoc, Nat.add_zero] at e0 e1 e2 e3 e4 e5
      have hy0 := HY.out (List.range j) j
      have hE : entEs l j = #[.int .i64 j, .agg #[.int .i64 (fld (l.drop (j * 20)) 0 2), .int .i64 (fld (l.drop (j * 20)) 2 2), .int .u32 (fld (l.drop (j * 20)) 4 4), .int .u32 (fld (l.drop (j * 20)) 8 4), .int .u32 (fld (l.drop (j * 20)) 12 4), .int .u32 (fld (l.drop (j * 20)) 16 4)]] := rfl
      rw [hE] at hy0
      generalize fld (l.drop (j * 20)) 0 2 = v0 at *
      generalize fld (l.drop (j * 20)) 2 2 = v1 at *
      generalize fld (l.drop (j * 20)) 4 4 = v2 at *
      generalize fld (l.drop (j * 20)) 8 4 = v3 at *
      generalize fld (l.drop (j * 20)) 12 4 = v4 at *
      generalize fld (l.drop (j * 20)) 16 4 = v5 at *
      have hj3 : (0 : Int) ≤ (j : Int) := by omega
      have hj4 : (j : Int) < (N : Int) := by omega
      have bW1 : Below wr.heap.size wr (wr.alloc (.cells #[.int .i64 v0, .int .i64 v1, .int .u32 v2, .int .u32 v3, .int .u32 v4, .int .u32 v5] 55)) := balloc (Below.refl _ _) _
      obtain ⟨fn, tmps, assign, body, hy, hR⟩ := hy0 _ (HJW.out _ _ _ none hJ (below_none bW1) (by simp)) (by simpa using hlt)
      have HB1 := Lib.hid (hb.trans (bW1.mono (Nat.le_trans hn0 hb.size)))
      clear hy0 hE hcell bW1 hb hJ
      gi_wp2_with fail
      refine hR.mono ?_
      rintro e W3 (⟨rfl, hJ3, hk3⟩ | ⟨rfl, hJx3⟩)
      · gi_wp2
        go_roundw
        case rel => exact ⟨j + 1, by omega, by go_num, by rw [List.range_succ]; exact hJ3, HB1.out.trans hk3⟩
        case measure => simp [intOf]; omega
      · gi_wp2
        rw [Exit.noGoto_normal]
        go_end0
        exact ⟨⟨_, rfl⟩, .inr ⟨_, ⟨j + 1, by omega, (List.range_succ).symm⟩, hJx3⟩⟩
    · obtain rfl : j = N := by omega
      gi_wp2_with fail
      rw [Exit.noGoto_normal]
      go_end0
      exact ⟨⟨_, rfl⟩, .inl ⟨_, rfl, hJ⟩⟩

/-- what Each hands back: a function, a datagram in a box -/
def IsPE (w : World) (l : List UInt8) (lb : Array Value) : Prop :=
  ∃ Bd cm A c, lb = #[.pointer (some ⟨Bd, 0, none⟩)] ∧ Blk w Bd 27 #[.int .i64 cm, .slice A (l.length / 20) c] ∧ l.length / 20 ≤ c ∧ c ≤ 9223372036854775807 ∧ Rd w w.heap.size A (entC l (l.length / 20))
theorem IsPE.below {w w' : World} {l : List UInt8} {lb : Array Value} (h : IsPE w l lb) (hb : Below w.heap.size w w') : IsPE w' l lb := by
  obtain ⟨Bd, cm, A, c, e, h2, h3, h4, h5⟩ := h
  exact ⟨Bd, cm, A, c, e, h2.below hb h2.lt, h3, h4, (h5.below hb).more hb.size⟩
set_option maxHeartbeats 1000000 in
theorem peach_any (l : List UInt8) (n : Nat) (hn : l.length = n) (A : Option Addr) (c : Nat) (w : World) (hw : WidthsAt w) (h : Rd w w.heap.size A (l.map b8)) (hlc : n ≤ c) (hc : c ≤ 9223372036854775807) :
    Calls Tryd.prog 21 #[.slice A n c] w fun e w' => ∃ lb, e = .returned (.func (.func 41) #[] lb) ∧ IsPE w' (bodB l) lb ∧ Below w.heap.size w w' := by
  have hmf : ∀ (fn : Fn) (first cap : Array Value) (w : World), (Instr.makeFunc fn first cap).run Tryd.prog w = .ok (.func fn first cap) w := fun _ _ _ _ => rfl
  have HD := Lib.hid (decode_any l n hn A c w.heap.size w hw h hlc hc (Nat.le_refl _))
  clear hn hw h
  go_enter Tryd.func21, Tryd.ntmps21
  go_wp2_with (go_at_call 9; refine HD.out.mono ?_; rintro e w1 ⟨A1, c1, rfl, k1, k2, k3, k4, _⟩; rw [bod_len] at k1 ⊢; rw [bod_C] at k3)
  go_ret
  exact ⟨_, rfl, ⟨_, _, A1, c1, rfl, Blk.new w1 _ _, k1, k2, (k3.alloc (Nat.le_refl _) _).more (by simp)⟩, balloc k4 _⟩
theorem pe_stops (n : Nat) (hn : 1 ≤ n) (n₀ : Nat) (l : List UInt8) (lb : Array Value) (w : World) (hl : l.length ≤ 20000) (w0 : World) (h0 : IsPE w0 l lb) (hb : Below w0.heap.size w0 w) (hn0 : w0.heap.size ≤ n₀) (hn1 : n₀ ≤ w.heap.size) :
    SeqStopsK Fence.wide n Tryd.prog 41 lb (entEs l) (Below n₀) (fun ys => ys = List.range (l.length / 20)) (fun pre => ∃ j, j ≤ l.length / 20 ∧ pre = List.range j) (l.length / 20) w := fun lp J Jx W hW hA _ hY hJ0 => by
  have hb2 : Below w0.heap.size w0 W := bnext hb hW
  obtain ⟨Bd, cm, A, c, rfl, h2, h3, h4, h5⟩ := h0
  exact pe1_in n hn lp Bd n₀ (l.length / 20) l cm A c rfl h3 h4 (by omega) J Jx W hA hY (h2.below hb2 h2.lt) ((h5.below hb2).more hn0) (Nat.lt_of_lt_of_le h2.lt hn0) (Nat.le_trans hn1 hW.size) hJ0
end Go.Proofs.YtpadlillbofpnaaDoor
