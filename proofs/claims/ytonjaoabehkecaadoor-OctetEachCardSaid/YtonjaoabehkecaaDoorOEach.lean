/- octet.Each: what is handed to the loop's body, in order. -/
import Derived.Test.YtonjaoabehkecaaDoorRdr
import Derived.Test.YtonjaoabehkecaaDoorRng
namespace Go.Proofs.YtonjaoabehkecaaDoor
set_option linter.unusedVariables false
set_option linter.unusedSimpArgs false
open Go.RowKit Go.Shelf
attribute [local go_sem] Oper.semAt_some
set_option maxRecDepth 100000

/-- how many numbers of a width stand one behind the other -/
def eachN (l : List UInt8) (k : Int) : Nat := if isW k = true then l.length / k.toNat else 0
/-- the one at a place -/
def eachV (l : List UInt8) (k : Int) (i : Nat) : Nat := be ((l.drop (i * k.toNat)).take k.toNat)
def eachAt (k : Int) (i : Nat) : Int := ((i * k.toNat : Nat) : Int)
def eachE (l : List UInt8) (k : Int) (i : Nat) : Array Value := #[.int .i64 (eachAt k i), .int .u32 (eachV l k i)]

set_option maxHeartbeats 4000000 in
theorem each1_in (n : Nat) (hn : 1 ≤ n) (lb Bw Ba n₀ : Nat) (l : List UInt8) (k : Int) (A : Option Addr) (c : Nat) (hlc : l.length ≤ c) (hc : c ≤ 9223372036854775807) (hl : l.length ≤ 1048576)
    (J Jx : List Nat → World → Prop)
    (hY : ∀ pre x W, J pre W → pre.length < eachN l k → YieldAt Fence.wide (n - 1) Tryd.prog lb (eachE l k x) W fun e W' =>
      (e = .returned (.bool true) ∧ J (pre ++ [x]) W' ∧ Below n₀ W W') ∨ (e = .returned (.bool false) ∧ Jx (pre ++ [x]) W'))
    (W : World) (hw : WidthsAt W) (hBw : Boxed W Bw 3 (.int .i64 k)) (hBa : Boxed W Ba 61 (.slice A l.length c)) (hr : Rd W n₀ A (l.map b8)) (h1 : Bw < n₀) (h2 : Ba < n₀) (h0 : J [] W) :
    CallsIn Fence.wide n Tryd.prog 31 #[.func (.yield lb) #[] #[], .pointer (some ⟨Bw, 0, none⟩), .pointer (some ⟨Ba, 0, none⟩)] W fun e W' => (∃ v, e = .returned v) ∧
      ((∃ ys, ys = List.range (eachN l k) ∧ J ys W') ∨ (∃ pre, (∃ j, j ≤ eachN l k ∧ pre = List.range j) ∧ Jx pre W')) := by
  have cw := hBw.cell
  have ca := hBa.cell
  by_cases hk : isW k = false
  · have hN : eachN l k = 0 := by simp [eachN, hk]
    have HN := Lib.hid hN
    clear hN hY
    refine callsIn_of_wp Tryd.func31 rfl trivial ?_ rfl
    simp only [Tryd.ntmps31, List.size_toArray, List.length_cons, List.length_nil, Nat.reduceAdd, Nat.reduceSub, Array.replicate_succ, Array.replicate_zero, List.push_toArray, List.append_toArray, List.nil_append, List.cons_append]
    refine scope_in ?_
    gi_wp2_with (first | (refine ⟨trivial, ?_⟩; gi_at_call 23; refine (callsIn_wide.2 (isWidth_any _ _ hw)).mono ?_; rintro e w' ⟨rfl, rfl⟩))
    rw [Exit.noGoto_ret]
    refine bodyPost_ret (results_none rfl _ _ _) rfl ?_
    exact ⟨⟨_, rfl⟩, .inl ⟨_, rfl, by rw [HN.out]; exact h0⟩⟩
  · have hk' : isW k = true := by simpa using hk
    have hkc := isW_cases hk'
    obtain ⟨q, rfl⟩ : ∃ q : Nat, k = q := ⟨k.toNat, by omega⟩
    have hq : 0 < q ∧ q ≤ 4 := by omega
    have hN : eachN l q = l.length / q := by simp [eachN, hk']
    have hNl : eachN l q * q ≤ l.length := by rw [hN]; exact Nat.div_mul_le_self _ _
    have hNu : l.length < (eachN l q + 1) * q := by rw [hN, Nat.add_mul, Nat.one_mul]; exact Nat.lt_div_mul_add hq.1
    have HN := Lib.hid hN
    have HE := Lib.hid (show ∀ i, eachE l q i = #[.int .i64 (((i * q : Nat)) : Int), .int .u32 (be ((l.drop (i * q)).take q))] from fun i => by simp [eachE, eachV, eachAt])
    generalize eachN l q = N at *
    clear hk hkc hN
    refine callsIn_of_wp Tryd.func31 rfl trivial ?_ rfl
    simp only [Tryd.ntmps31, List.size_toArray, List.length_cons, List.length_nil, Nat.reduceAdd, Nat.reduceSub, Array.replicate_succ, Array.replicate_zero, List.push_toArray, List.append_toArray, List.nil_append, List.cons_append]
    refine scope_in ?_
    gi_wp2_with (first | (refine ⟨trivial, ?_⟩; gi_at_call 23; refine (callsIn_wide.2 (isWidth_any _ _ hw)).mono ?_; rintro e w' ⟨rfl, rfl⟩))
    refine wpIn_label ?_
    gi_wp2
    gi_loopw [4] (fun i wr => ∃ j : Nat, j ≤ N ∧ i = .int .i64 ((j * q : Nat) : Int) ∧ J (List.range j) wr ∧ Below n₀ W wr) (fun i _ => l.length + 1 - (intOf i).toNat)
    case atStart => exact ⟨0, Nat.zero_le _, by simp, h0, Below.refl _ _⟩
    case round =>
      obtain ⟨j, hj, rfl, hJ, hb⟩ := hrel
      have cw' := (boxed_below hBw hb h1).cell
      have ca' := (boxed_below hBa hb h2).cell
      clear cw ca
      by_cases hlt : j < N
      · have hjq : j * q + q ≤ l.length := by
          have := Nat.mul_le_mul_right q hlt
          rw [Nat.succ_mul] at this
          omega
        obtain ⟨fn, tmps, assign, body, hy, hR⟩ := hY _ j wr hJ (by simpa using hlt)
        rw [HE.out] at hy
        have hd : decide (((j * q : Nat) : Int) ≤ (l.length : Int) - q) = true := by simp; omega
        have hrd := (hr.below hb).cut (j * q) q hq.1 (by simp; omega)
        rw [← List.map_drop, ← List.map_take] at hrd
        have HL := Lib.hid (show ((l.drop (j * q)).take q).length = q by simp; omega)
        have hjm : (j * q : Nat) ≤ 1048576 := by omega
        have HJ := Lib.hid (show j * q + q = (j + 1) * q by rw [Nat.add_mul, Nat.one_mul])
        generalize j * q = p at *
        gi_wp2_with (first
          | (refine ⟨trivial, ?_⟩; gi_at_call 26; refine (callsIn_wide.2 (has_any _ _ _ _ _ _ (by omega) (by omega) (by omega))).mono ?_; rintro e w' ⟨rfl, rfl⟩)
          | (refine ⟨trivial, ?_⟩; gi_at_call 28; refine (callsIn_wide.2 (cut_any _ _ _ _ _ _ (by omega) (by omega) (by omega) (by omega))).mono ?_; rintro e w' ⟨rfl, rfl⟩)
          | (refine ⟨trivial, ?_⟩; gi_at_call 27; refine (callsIn_wide.2 (folded_len _ _ HL.out _ _ _ _ hrd (by omega))).mono ?_; rintro e w' ⟨rfl, rfl⟩))
        refine hR.mono ?_
        rintro e W3 (⟨rfl, hJ3, hk3⟩ | ⟨rfl, hJx3⟩)
        · have cw3 := (boxed_below hBw (hb.trans hk3) h1).cell
          clear cw' ca'
          gi_wp2
          go_roundw
          case rel => exact ⟨j + 1, by omega, by rw [← HJ.out]; go_num, by rw [List.range_succ]; exact hJ3, hb.trans hk3⟩
          case measure => simp [intOf]; omega
        · gi_wp2
          rw [Exit.noGoto_normal]
          go_end0
          exact ⟨⟨_, rfl⟩, .inr ⟨_, ⟨j + 1, by omega, (List.range_succ).symm⟩, hJx3⟩⟩
      · obtain rfl : j = N := by omega
        have hjm : (j * q : Nat) ≤ 1048576 := by omega
        have hd : decide (((j * q : Nat) : Int) ≤ (l.length : Int) - q) = false := by
          rw [Nat.add_mul, Nat.one_mul] at hNu
          simp; omega
        clear hNu hNl
        generalize j * q = p at *
        gi_wp2_with (first
          | (refine ⟨trivial, ?_⟩; gi_at_call 26; refine (callsIn_wide.2 (has_any _ _ _ _ _ _ (by omega) (by omega) (by omega))).mono ?_; rintro e w' ⟨rfl, rfl⟩))
        rw [Exit.noGoto_normal]
        go_end0
        exact ⟨⟨_, rfl⟩, .inl ⟨_, rfl, hJ⟩⟩

/-- what Each hands back: a function, its width and its bytes in boxes -/
def IsEach (w : World) (l : List UInt8) (k : Int) (lb : Array Value) : Prop :=
  ∃ Bw Ba A c, lb = #[.pointer (some ⟨Bw, 0, none⟩), .pointer (some ⟨Ba, 0, none⟩)] ∧ Boxed w Bw 3 (.int .i64 k) ∧ Boxed w Ba 61 (.slice A l.length c) ∧ l.length ≤ c ∧ c ≤ maxLen ∧ Rd w w.heap.size A (l.map b8)
theorem IsEach.below {w w' : World} {l : List UInt8} {k : Int} {lb : Array Value} (h : IsEach w l k lb) (hb : Below w.heap.size w w') : IsEach w' l k lb := by
  obtain ⟨Bw, Ba, A, c, e, h1, h2, h3, h4, h5⟩ := h
  exact ⟨Bw, Ba, A, c, e, boxed_below h1 hb h1.lt, boxed_below h2 hb h2.lt, h3, h4, (h5.below hb).more hb.size⟩
set_option maxHeartbeats 1000000 in
theorem each_any (l : List UInt8) (A : Option Addr) (c : Nat) (k : Int) (w : World) (h : Rd w w.heap.size A (l.map b8)) (hl : l.length ≤ 1048576) :
    Calls Tryd.prog 17 #[.slice A l.length c, .int .i64 k] w fun e w' => ∃ lb, e = .returned (.func (.func 31) #[] lb) ∧ IsEach w' l k lb ∧ Below w.heap.size w w' := by
  have hmf : ∀ (fn : Fn) (first cap : Array Value) (w : World), (Instr.makeFunc fn first cap).run Tryd.prog w = .ok (.func fn first cap) w := fun _ _ _ _ => rfl
  go_enter Tryd.func17, Tryd.ntmps17
  go_wp2_with (go_at_call 29; refine (clone_any l _ rfl _ _ w.heap.size _ (h.alloc (Nat.le_refl _) _) hl (by simp)).mono ?_; rintro e w1 ⟨A1, c1, rfl, hc1, hm1, hr1, hb1, _⟩)
  go_ret
  exact ⟨_, rfl, ⟨_, _, A1, c1, rfl, (boxed_below (Boxed.new w _ _) hb1 (by simp)).alloc _, Boxed.new w1 _ _, hc1, hm1, (hr1.alloc (Nat.le_refl _) _).more (by simp)⟩, balloc (bnext (balloc (Below.refl _ _) _) hb1) _⟩

/-- octet.Each's function, for a loop whose body keeps what lay when the loop began -/
theorem each_stops (n : Nat) (hn : 1 ≤ n) (n₀ : Nat) (l : List UInt8) (k : Int) (lb : Array Value) (w : World) (hw : WidthsAt w) (hl : l.length ≤ 1048576) (w0 : World) (h0 : IsEach w0 l k lb) (hb : Below w0.heap.size w0 w) (hn0 : w0.heap.size ≤ n₀) :
    SeqStopsK Fence.wide n Tryd.prog 31 lb (eachE l k) (Below n₀) (fun ys => ys = List.range (eachN l k)) (fun pre => ∃ j, j ≤ eachN l k ∧ pre = List.range j) (eachN l k) w := fun lp J Jx W hW _ _ hY hJ0 => by
  have hb2 : Below w0.heap.size w0 W := bnext hb hW
  obtain ⟨Bw, Ba, A, c, rfl, h1, h2, h3, h4, h5⟩ := h0
  exact each1_in n hn lp Bw Ba n₀ l k A c h3 (by unfold maxLen at h4; omega) hl J Jx hY W (hw.below hW) (boxed_below h1 hb2 h1.lt) (boxed_below h2 hb2 h2.lt) ((h5.below hb2).more hn0) (Nat.lt_of_lt_of_le h1.lt hn0) (Nat.lt_of_lt_of_le h2.lt hn0) hJ0
end Go.Proofs.YtonjaoabehkecaaDoor
