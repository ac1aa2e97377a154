/- entry.Each: what is handed to the loop's body, in order; and the document's list. -/
import Derived.Test.YtpadlillbofpnaaDoorERd2
import Derived.Test.YtpadlillbofpnaaDoorRng
namespace Go.Proofs.YtpadlillbofpnaaDoor
set_option linter.unusedVariables false
set_option linter.unusedSimpArgs false
open Go.RowKit Go.Shelf
attribute [local go_sem] Oper.semAt_some
set_option maxRecDepth 100000

/-- the entry at a place -/
def entE (l : List UInt8) (i : Nat) : Value := readE (l.drop (i * 20))
def entEs (l : List UInt8) (i : Nat) : Array Value := #[.int .i64 i, entE l i]
theorem entE_eq (l : List UInt8) (i : Nat) : entE l i = .agg #[.int .i64 (fld (l.drop (i * 20)) 0 2), .int .i64 (fld (l.drop (i * 20)) 2 2), .int .u32 (fld (l.drop (i * 20)) 4 4), .int .u32 (fld (l.drop (i * 20)) 8 4), .int .u32 (fld (l.drop (i * 20)) 12 4), .int .u32 (fld (l.drop (i * 20)) 16 4)] := rfl
theorem rd_drop {w : World} {B : Nat} {A : Option Addr} {l : List UInt8} (h : Rd w B A (l.map b8)) (k : Nat) (hk : k < l.length) : Rd w B (A.map (fun x => x.add k)) ((l.drop k).map b8) := by
  have := h.cut k (l.length - k) (by omega) (by simp; omega)
  rw [List.take_of_length_le (by simp)] at this
  rwa [List.map_drop]

set_option maxHeartbeats 2000000 in
theorem eeach1_in (n : Nat) (hn : 1 ≤ n) (lb Ba n₀ : Nat) (l : List UInt8) (A : Option Addr) (c : Nat) (hlc : l.length ≤ c) (hc : c ≤ 9223372036854775807) (hl : l.length ≤ 1048576)
    (J Jx : List Nat → World → Prop) (W : World) (hW : AbidesFrom W.heap.size J)
    (hY : ∀ pre x W, J pre W → pre.length < l.length / 20 → YieldAt Fence.wide (n - 1) Tryd.prog lb (entEs l x) W fun e W' =>
      (e = .returned (.bool true) ∧ J (pre ++ [x]) W' ∧ Below n₀ W W') ∨ (e = .returned (.bool false) ∧ Jx (pre ++ [x]) W'))
    (hw : ∀ W', Below n₀ W W' → WidthsAt W') (hBa : Boxed W Ba 22 (.slice A l.length c)) (hr : Rd W n₀ A (l.map b8)) (h2 : Ba < n₀) (hn0 : n₀ ≤ W.heap.size) (h0 : J [] W) :
    CallsIn Fence.wide n Tryd.prog 46 #[.func (.yield lb) #[] #[], .pointer (some ⟨Ba, 0, none⟩)] W fun e W' => (∃ v, e = .returned v) ∧
      ((∃ ys, ys = List.range (l.length / 20) ∧ J ys W') ∨ (∃ pre, (∃ j, j ≤ l.length / 20 ∧ pre = List.range j) ∧ Jx pre W')) := by
  have ca := hBa.cell
  have hNl : l.length / 20 * 20 ≤ l.length := Nat.div_mul_le_self _ _
  refine callsIn_of_wp Tryd.func46 rfl trivial ?_ rfl
  simp only [Tryd.ntmps46, List.size_toArray, List.length_cons, List.length_nil, Nat.reduceAdd, Nat.reduceSub, Array.replicate_succ, Array.replicate_zero, List.push_toArray, List.append_toArray, List.nil_append, List.cons_append]
  refine scope_in ?_
  gi_wp2_with fail
  refine wpIn_label ?_
  gi_wp2
  gi_loopw [9] (fun i wr => ∃ j : Nat, j ≤ l.length / 20 ∧ i = .int .i64 j ∧ J (List.range j) wr ∧ Below n₀ W wr) (fun i _ => l.length / 20 - (intOf i).toNat)
  case atStart => exact ⟨0, Nat.zero_le _, rfl, h0, Below.refl _ _⟩
  case round =>
    obtain ⟨j, hj, rfl, hJ, hb⟩ := hrel
    have ca' := (boxed_below hBa hb h2).cell
    clear ca
    by_cases hlt : j < l.length / 20
    · have hjq : j * 20 + 20 ≤ l.length := by omega
      have hrd := rd_drop ((hr.below hb).more (Nat.le_trans hn0 hb.size)) (j * 20) (by omega)
      have hlen : (l.drop (j * 20)).length = l.length - j * 20 := by simp
      have hcall := fun cc hcc hcc2 => eread_ok (l.drop (j * 20)) (A.map (fun x => x.add (j * 20))) cc wr (hw wr hb) hrd hcc hcc2 (by rw [hlen]; omega)
      rw [hlen] at hcall
      have hy0 := hY (List.range j) j
      have hE : entEs l j = #[.int .i64 j, .agg #[.int .i64 (fld (l.drop (j * 20)) 0 2), .int .i64 (fld (l.drop (j * 20)) 2 2), .int .u32 (fld (l.drop (j * 20)) 4 4), .int .u32 (fld (l.drop (j * 20)) 8 4), .int .u32 (fld (l.drop (j * 20)) 12 4), .int .u32 (fld (l.drop (j * 20)) 16 4)]] := rfl
      rw [hE] at hy0
      unfold readE at hcall
      generalize fld (l.drop (j * 20)) 0 2 = v0 at *
      generalize fld (l.drop (j * 20)) 2 2 = v1 at *
      generalize fld (l.drop (j * 20)) 4 4 = v2 at *
      generalize fld (l.drop (j * 20)) 8 4 = v3 at *
      generalize fld (l.drop (j * 20)) 12 4 = v4 at *
      generalize fld (l.drop (j * 20)) 16 4 = v5 at *
      have CC := Lib.hid hcall
      have HG := Lib.hid hy0
      have hnc : ¬ c = j * 20 := by omega
      clear hcall hlen hrd hy0 hE
      gi_wp2_with fail
      refine ⟨trivial, ?_⟩
      refine (callsIn_wide.2 (CC.out _ (by omega) (by omega))).mono ?_
      rintro e w2 ⟨rfl, b2⟩
      obtain ⟨fn, tmps, assign, body, hy, hR⟩ := HG.out _ (hW _ _ _ none hJ (below_none (balloc b2 (.cells #[.int .i64 v0, .int .i64 v1, .int .u32 v2, .int .u32 v3, .int .u32 v4, .int .u32 v5] 55))) (by simp)) (by simpa using hlt)
      clear HG CC
      gi_wp2
      refine hR.mono ?_
      rintro e W3 (⟨rfl, hJ3, hk3⟩ | ⟨rfl, hJx3⟩)
      · gi_wp2
        go_roundw
        case rel => exact ⟨j + 1, by omega, by go_num, by rw [List.range_succ]; exact hJ3, hb.trans (((b2.mono (Nat.le_trans hn0 hb.size)).alloc (Nat.le_trans hn0 (Nat.le_trans hb.size b2.size)) _).trans hk3)⟩
        case measure => simp [intOf]; omega
      · gi_wp2
        rw [Exit.noGoto_normal]
        go_end0
        exact ⟨⟨_, rfl⟩, .inr ⟨_, ⟨j + 1, by omega, (List.range_succ).symm⟩, hJx3⟩⟩
    · obtain rfl : j = l.length / 20 := by omega
      gi_wp2_with fail
      rw [Exit.noGoto_normal]
      go_end0
      exact ⟨⟨_, rfl⟩, .inl ⟨_, rfl, hJ⟩⟩

/-- what Each hands back: a function, its bytes in a box -/
def IsEEach (w : World) (l : List UInt8) (lb : Array Value) : Prop :=
  ∃ Ba A c, lb = #[.pointer (some ⟨Ba, 0, none⟩)] ∧ Boxed w Ba 22 (.slice A l.length c) ∧ l.length ≤ c ∧ c ≤ maxLen ∧ Rd w w.heap.size A (l.map b8)
theorem IsEEach.below {w w' : World} {l : List UInt8} {lb : Array Value} (h : IsEEach w l lb) (hb : Below w.heap.size w w') : IsEEach w' l lb := by
  obtain ⟨Ba, A, c, e, h2, h3, h4, h5⟩ := h
  exact ⟨Ba, A, c, e, boxed_below h2 hb h2.lt, h3, h4, (h5.below hb).more hb.size⟩
set_option maxHeartbeats 1000000 in
theorem eeach_any (l : List UInt8) (A : Option Addr) (c : Nat) (w : World) (h : Rd w w.heap.size A (l.map b8)) (hl : l.length ≤ 1048576) :
    Calls Tryd.prog 26 #[.slice A l.length c] w fun e w' => ∃ lb, e = .returned (.func (.func 46) #[] lb) ∧ IsEEach w' l lb ∧ Below w.heap.size w w' := by
  have hmf : ∀ (fn : Fn) (first cap : Array Value) (w : World), (Instr.makeFunc fn first cap).run Tryd.prog w = .ok (.func fn first cap) w := fun _ _ _ _ => rfl
  go_enter Tryd.func26, Tryd.ntmps26
  go_wp2_with (go_at_call 45; refine (clone_any l _ rfl _ _ w.heap.size _ h hl (Nat.le_refl _)).mono ?_; rintro e w1 ⟨A1, c1, rfl, hc1, hm1, hr1, hb1, _⟩)
  go_ret
  exact ⟨_, rfl, ⟨_, A1, c1, rfl, Boxed.new w1 _ _, hc1, hm1, (hr1.alloc (Nat.le_refl _) _).more (by simp)⟩, balloc hb1 _⟩
theorem eeach_stops (n : Nat) (hn : 1 ≤ n) (n₀ : Nat) (l : List UInt8) (lb : Array Value) (w : World) (hl : l.length ≤ 1048576) (w0 : World) (hw : WidthsAt w0) (h0 : IsEEach w0 l lb) (hb : Below w0.heap.size w0 w) (hn0 : w0.heap.size ≤ n₀) (hn1 : n₀ ≤ w.heap.size) :
    SeqStopsK Fence.wide n Tryd.prog 46 lb (entEs l) (Below n₀) (fun ys => ys = List.range (l.length / 20)) (fun pre => ∃ j, j ≤ l.length / 20 ∧ pre = List.range j) (l.length / 20) w := fun lp J Jx W hW hA _ hY hJ0 => by
  have hb2 : Below w0.heap.size w0 W := bnext hb hW
  obtain ⟨Ba, A, c, rfl, h2, h3, h4, h5⟩ := h0
  exact eeach1_in n hn lp Ba n₀ l A c h3 (by unfold maxLen at h4; omega) hl J Jx W hA hY (fun W' h => hw.below (hb2.trans (h.mono hn0))) (boxed_below h2 hb2 h2.lt) ((h5.below hb2).more hn0) (Nat.lt_of_lt_of_le h2.lt hn0) (Nat.le_trans hn1 hW.size) hJ0

end Go.Proofs.YtpadlillbofpnaaDoor
