/- packet: what bytes must be. -/
import Derived.Test.YtpadlillbofpnaaDoorPk2
import Derived.Test.YtpadlillbofpnaaDoorEEach
namespace Go.Proofs.YtpadlillbofpnaaDoor
set_option linter.unusedVariables false
set_option linter.unusedSimpArgs false
open Go.RowKit
set_option maxRecDepth 100000
theorem rbool {a b : Bool} (h : a = b) : Ending.returned (.bool a) = .returned (.bool b) := by rw [h]
/-- the byte at a place -/
def at8 (l : List UInt8) (i : Nat) : Nat := (l.getD i 0).toNat
theorem at8_lt (l : List UInt8) (i : Nat) : at8 l i < 256 := UInt8.toNat_lt _
theorem rdF_one {l : List UInt8} {i : Nat} (hi : i < l.length) : rdF l i 1 = (at8 l i, 0) := by
  unfold rdF
  rw [if_neg (by decide), if_neg (by omega), if_neg (by omega)]
  simp only [Int.toNat_natCast, Int.toNat_one]
  rw [List.drop_eq_getElem_cons hi, List.take_succ_cons, List.take_zero]
  unfold be at8
  rw [List.getD, List.getElem?_eq_getElem hi]
  simp
theorem rdF_two {l : List UInt8} {i : Nat} (hi : i + 1 < l.length) : rdF l i 2 = (at8 l i * 256 + at8 l (i + 1), 0) := by
  unfold rdF
  rw [if_neg (by decide), if_neg (by omega), if_neg (by omega)]
  simp only [Int.toNat_natCast, show (2 : Int).toNat = 2 from rfl]
  rw [List.drop_eq_getElem_cons (show i < l.length by omega), List.drop_eq_getElem_cons hi, List.take_succ_cons, List.take_succ_cons, List.take_zero]
  unfold be at8
  simp only [List.getD]
  rw [List.getElem?_eq_getElem hi, List.getElem?_eq_getElem (show i < l.length by omega)]
  simp

theorem number_any (l : List UInt8) (n : Nat) (hn : l.length = n) (A : Option Addr) (c B : Nat) (w : World) (hw : WidthsAt w) (h : Rd w B A (l.map b8)) (hlc : n ≤ c) (hc : c ≤ 9223372036854775807) (i k : Int) (v : Nat) (hv : rdF l i k = (v, 0)) (hb : v < 4294967296) :
    Calls Tryd.prog 25 #[.slice A n c, .int .i64 i, .int .i64 k] w fun e w' => e = .returned (.int .i64 v) ∧ w = w' := by
  have HR := Lib.hid (read_any l n hn A c B w hw h hlc hc i k)
  rw [hv] at HR
  have hwr : IntKind.i64.wrap (v : Int) = v := IntWalk.i64_in _ ⟨by omega, by omega⟩
  clear hv h hn
  go_enter Tryd.func25, Tryd.ntmps25
  go_wp2_with (go_at_call 44; refine HR.out.mono ?_; rintro e w' ⟨rfl, rfl⟩)
  go_ret
  exact ⟨rfl, rfl⟩
theorem body_any (l : List UInt8) (n : Nat) (hn : l.length = n) (A : Option Addr) (c B : Nat) (w : World) (h : Rd w B A (l.map b8)) (h4 : 4 ≤ n) (hlc : n ≤ c) (hc : c ≤ 9223372036854775807) :
    Calls Tryd.prog 27 #[.slice A n c] w fun e w' => (∃ A', e = .returned (.slice A' (n - 4) (n - 4)) ∧ Rd w B A' ((l.drop 4).map b8)) ∧ w = w' := by
  have HN := Lib.hid hn
  have HR := Lib.hid h
  obtain ⟨b, off, rfl, _, _⟩ := h (by rw [List.length_map, hn]; omega)
  clear h hn
  by_cases h0 : n = 4
  · subst h0
    go_enter Tryd.func27, Tryd.ntmps27
    go_wp2
    go_ret
    refine ⟨⟨_, rfl, fun h => ?_⟩, rfl⟩
    rw [List.length_map, List.length_drop, HN.out] at h
    omega
  · have hr := rd_drop HR.out 4 (by rw [HN.out]; omega)
    have HD := Lib.hid hr
    have hnc : ¬ n = 4 := h0
    clear hr
    go_enter Tryd.func27, Tryd.ntmps27
    go_wp2
    go_ret
    exact ⟨⟨_, rfl, by simpa [add_plain] using HD.out⟩, rfl⟩
theorem dem1_any (A : Option Addr) (n c : Nat) (w : World) : Calls Tryd.prog 53 #[.agg #[.slice A n c]] w fun e w' => e = .returned (.bool (decide (4 ≤ n))) ∧ Below w.heap.size w w' := by
  go_enter Tryd.func53, Tryd.ntmps53
  go_wp2
  go_ret
  exact ⟨rbool (by rw [decide_eq_decide]; omega), balloc (Below.refl _ _) _⟩
theorem dem2_any (l : List UInt8) (n : Nat) (hn : l.length = n) (A : Option Addr) (c B : Nat) (w : World) (h : Rd w B A (l.map b8)) (h4 : 4 ≤ n) (hlc : n ≤ c) (hc : c ≤ 9223372036854775807) (hB : B ≤ w.heap.size) :
    Calls Tryd.prog 54 #[.agg #[.slice A n c]] w fun e w' => e = .returned (.bool (decide ((n - 4) % 20 = 0 ∧ n ≤ 504))) ∧ Below w.heap.size w w' := by
  have HBD := Lib.hid (body_any l n hn A c B _ (h.alloc hB (.cells #[.slice A n c] 63)) h4 hlc hc)
  clear h hn
  go_enter Tryd.func54, Tryd.ntmps54
  go_wp2_with (go_at_call 27; refine HBD.out.mono ?_; rintro e w' ⟨⟨A', rfl, _⟩, rfl⟩)
  all_goals
    first
    | (refine bodyPost_ret (v := .bool false) (by simp [results, Tryd.results54, go_sem]) rfl ⟨rbool ?_, balloc (Below.refl _ _) _⟩
       exact (decide_eq_false (by omega)).symm)
    | (refine bodyPost_ret (v := .bool (decide (((n - 4 : Nat) : Int) ≤ 500))) (by simp [results, Tryd.results54, go_sem]) rfl ⟨rbool ?_, balloc (Below.refl _ _) _⟩
       exact decide_eq_decide.2 (by omega))
theorem dem3_any (l : List UInt8) (n : Nat) (hn : l.length = n) (A : Option Addr) (c B : Nat) (w : World) (hw : WidthsAt w) (h : Rd w B A (l.map b8)) (h4 : 4 ≤ n) (hlc : n ≤ c) (hc : c ≤ 9223372036854775807) (hB : B ≤ w.heap.size) :
    Calls Tryd.prog 55 #[.agg #[.slice A n c]] w fun e w' => e = .returned (.bool (decide (at8 l 1 = 2))) ∧ Below w.heap.size w w' := by
  have hb1 : Below w.heap.size w (w.alloc (.cells #[.slice A n c] 63)) := balloc (Below.refl _ _) _
  have l0 := at8_lt l 1
  have l1 := at8_lt l 2
  have HNB := Lib.hid (number_any l n hn A c B _ (hw.below hb1) (h.below (hb1.mono hB)) hlc hc 1 1 (at8 l 1) (rdF_one (l := l) (i := 1) (by omega)) (by omega))
  clear h hn hb1
  go_enter Tryd.func55, Tryd.ntmps55
  go_wp2_with (first | (go_at_call 25; refine HNB.out.mono ?_; rintro e w' ⟨rfl, rfl⟩))
  go_ret
  exact ⟨rbool (by rw [Bool.eq_iff_iff, beq_iff_eq, decide_eq_true_eq]; omega), balloc (Below.refl _ _) _⟩
theorem dem4_any (l : List UInt8) (n : Nat) (hn : l.length = n) (A : Option Addr) (c B : Nat) (w : World) (hw : WidthsAt w) (h : Rd w B A (l.map b8)) (h4 : 4 ≤ n) (hlc : n ≤ c) (hc : c ≤ 9223372036854775807) (hB : B ≤ w.heap.size) :
    Calls Tryd.prog 56 #[.agg #[.slice A n c]] w fun e w' => e = .returned (.bool (cmdB (at8 l 0))) ∧ Below w.heap.size w w' := by
  have hb1 : Below w.heap.size w (w.alloc (.cells #[.slice A n c] 63)) := balloc (Below.refl _ _) _
  have l0 := at8_lt l 0
  have l1 := at8_lt l 1
  have HNB := Lib.hid (number_any l n hn A c B _ (hw.below hb1) (h.below (hb1.mono hB)) hlc hc 0 1 (at8 l 0) (rdF_one (l := l) (i := 0) (by omega)) (by omega))
  clear h hn hb1
  go_enter Tryd.func56, Tryd.ntmps56
  go_wp2_with (first | (go_at_call 25; refine HNB.out.mono ?_; rintro e w' ⟨rfl, rfl⟩) | (go_at_call 30; refine (iscmd_any _ _).mono ?_; rintro e w' ⟨rfl, rfl⟩))
  go_ret
  exact ⟨rbool (rfl), balloc (Below.refl _ _) _⟩
theorem dem5_any (l : List UInt8) (n : Nat) (hn : l.length = n) (A : Option Addr) (c B : Nat) (w : World) (hw : WidthsAt w) (h : Rd w B A (l.map b8)) (h4 : 4 ≤ n) (hlc : n ≤ c) (hc : c ≤ 9223372036854775807) (hB : B ≤ w.heap.size) :
    Calls Tryd.prog 57 #[.agg #[.slice A n c]] w fun e w' => e = .returned (.bool (decide (at8 l 2 * 256 + at8 l 3 = 0))) ∧ Below w.heap.size w w' := by
  have hb1 : Below w.heap.size w (w.alloc (.cells #[.slice A n c] 63)) := balloc (Below.refl _ _) _
  have l0 := at8_lt l 2
  have l1 := at8_lt l 3
  have HNB := Lib.hid (number_any l n hn A c B _ (hw.below hb1) (h.below (hb1.mono hB)) hlc hc 2 2 (at8 l 2 * 256 + at8 l 3) (rdF_two (l := l) (i := 2) (by omega)) (by omega))
  clear h hn hb1
  go_enter Tryd.func57, Tryd.ntmps57
  go_wp2_with (first | (go_at_call 25; refine HNB.out.mono ?_; rintro e w' ⟨rfl, rfl⟩))
  go_ret
  exact ⟨rbool (by rw [Bool.eq_iff_iff, beq_iff_eq, decide_eq_true_eq]; omega), balloc (Below.refl _ _) _⟩

/-- the table of demands -/
def demC : Array Value := #[.int .i64 150, .func (.func 53) #[] #[], .int .i64 151, .func (.func 54) #[] #[], .int .i64 152, .func (.func 55) #[] #[], .int .i64 153, .func (.func 56) #[] #[], .int .i64 154, .func (.func 57) #[] #[]]
set_option maxHeartbeats 1000000 in
theorem demands_any (w : World) : Calls Tryd.prog 43 #[] w fun e w' => e = .returned (.slice (some ⟨w.heap.size, 0, none⟩) 5 5) ∧ Blk w' w.heap.size 82 demC ∧ Below w.heap.size w w' := by
  go_enter Tryd.func43, Tryd.ntmps43
  go_wp2
  go_ret
  exact ⟨rfl, Blk.new w 82 demC, by go_grown⟩
/-- the error of bytes -/
def decE (l : List UInt8) : Int := if l.length < 4 then 150 else if ¬ ((l.length - 4) % 20 = 0 ∧ l.length ≤ 504) then 151 else if at8 l 1 ≠ 2 then 152 else if cmdB (at8 l 0) = false then 153 else if at8 l 2 * 256 + at8 l 3 ≠ 0 then 154 else 0
def mustK (k : Int) : Ending := if k = 0 then .returned (.tuple #[]) else .panicked [{ v := .iface 59 (.int .i64 k), recovered := false }]

set_option maxHeartbeats 8000000 in
theorem must_any (l : List UInt8) (n : Nat) (hn : l.length = n) (A : Option Addr) (c B : Nat) (w : World) (hw : WidthsAt w) (h : Rd w B A (l.map b8)) (hlc : n ≤ c) (hc : c ≤ 9223372036854775807) (hB : B ≤ w.heap.size) :
    Calls Tryd.prog 24 #[.agg #[.slice A n c]] w fun e w' => e = mustK (decE l) ∧ Below w.heap.size w w' := by
  have HN := Lib.hid hn
  have HD1 := Lib.hid (fun W (hW : Below w.heap.size w W) => dem1_any A n c W)
  have HD2 := Lib.hid (fun W (hW : Below w.heap.size w W) (h4 : 4 ≤ n) => dem2_any l n hn A c B W (h.below (hW.mono hB)) h4 hlc hc (Nat.le_trans hB hW.size))
  have HD3 := Lib.hid (fun W (hW : Below w.heap.size w W) (h4 : 4 ≤ n) => dem3_any l n hn A c B W (hw.below hW) (h.below (hW.mono hB)) h4 hlc hc (Nat.le_trans hB hW.size))
  have HD4 := Lib.hid (fun W (hW : Below w.heap.size w W) (h4 : 4 ≤ n) => dem4_any l n hn A c B W (hw.below hW) (h.below (hW.mono hB)) h4 hlc hc (Nat.le_trans hB hW.size))
  have HD5 := Lib.hid (fun W (hW : Below w.heap.size w W) (h4 : 4 ≤ n) => dem5_any l n hn A c B W (hw.below hW) (h.below (hW.mono hB)) h4 hlc hc (Nat.le_trans hB hW.size))
  clear hn hw h
  by_cases h1 : 4 ≤ n
  case neg =>
    rw [show decE l = 150 by unfold decE; rw [if_pos (by rw [HN.out]; omega)]]
    have HQ1 := Lib.hid (show decide (4 ≤ n) = false from decide_eq_false h1)
    clear h1
    go_enter Tryd.func24, Tryd.ntmps24
    go_wp2_with fail
    refine (demands_any _).mono ?_
    rintro e w1 ⟨rfl, T1, b1⟩
    have R1 := (Blk.new w 63 #[.slice A n c]).below b1 (by simp)
    have c1 := bnext (balloc (Below.refl _ w) _) b1
    unfold demC at T1
    simp only [World.size_alloc] at T1
    have t0 := (T1).cell 0
    have t1 := (T1).cell 1
    have t2 := (T1).cell 2
    have t3 := (T1).cell 3
    have t4 := (T1).cell 4
    have t5 := (T1).cell 5
    have t6 := (T1).cell 6
    have t7 := (T1).cell 7
    have t8 := (T1).cell 8
    have t9 := (T1).cell 9
    simp only [List.getElem?_toArray, List.getElem?_cons_zero, List.getElem?_cons_succ] at t0 t1 t2 t3 t4 t5 t6 t7 t8 t9
    have f0 := (R1).cell 0
    simp only [List.getElem?_toArray, List.getElem?_cons_zero, List.getElem?_cons_succ] at f0
    have z1 := T1.lt
    have y1 := R1.lt
    clear b1
    go_wp2_with fail
    refine wp_loop_rounds 6 ?_
    rw [rounds_succ]
    go_wp2_with fail
    refine (HD1.out _ (balloc c1 _)).mono ?_
    rw [HQ1.out]
    rintro e w2 ⟨rfl, b2⟩
    have p2 := bnext (balloc (Below.refl _ w1) _) b2
    have T2 := T1.below p2 T1.lt
    have R2 := R1.below p2 R1.lt
    have q2 := (Blk.new w1 82 #[.int .i64 150, .func (.func 53) #[] #[]]).below b2 (by simp)
    have q0 := (q2).cell 0
    have q1 := (q2).cell 1
    simp only [List.getElem?_toArray, List.getElem?_cons_zero, List.getElem?_cons_succ] at q0 q1
    have c2 := bnext c1 p2
    clear T1 R1 c1 z1 y1 b2 p2 q2
    clear t0 t1 t2 t3 t4 t5 t6 t7 t8 t9 f0
    have t0 := (T2).cell 0
    have t1 := (T2).cell 1
    have t2 := (T2).cell 2
    have t3 := (T2).cell 3
    have t4 := (T2).cell 4
    have t5 := (T2).cell 5
    have t6 := (T2).cell 6
    have t7 := (T2).cell 7
    have t8 := (T2).cell 8
    have t9 := (T2).cell 9
    simp only [List.getElem?_toArray, List.getElem?_cons_zero, List.getElem?_cons_succ] at t0 t1 t2 t3 t4 t5 t6 t7 t8 t9
    have f0 := (R2).cell 0
    simp only [List.getElem?_toArray, List.getElem?_cons_zero, List.getElem?_cons_succ] at f0
    have z2 := T2.lt
    have y2 := R2.lt
    go_wp2_with fail
    exact ⟨rfl, rfl, c2⟩
  by_cases h2 : (n - 4) % 20 = 0 ∧ n ≤ 504
  case neg =>
    rw [show decE l = 151 by unfold decE; rw [if_neg (by rw [HN.out]; omega), if_pos (by rw [HN.out]; exact h2)]]
    have HQ1 := Lib.hid (show decide (4 ≤ n) = true from decide_eq_true h1)
    have HQ2 := Lib.hid (show decide ((n - 4) % 20 = 0 ∧ n ≤ 504) = false from decide_eq_false h2)
    have H4 := Lib.hid h1
    clear h1 h2
    go_enter Tryd.func24, Tryd.ntmps24
    go_wp2_with fail
    refine (demands_any _).mono ?_
    rintro e w1 ⟨rfl, T1, b1⟩
    have R1 := (Blk.new w 63 #[.slice A n c]).below b1 (by simp)
    have c1 := bnext (balloc (Below.refl _ w) _) b1
    unfold demC at T1
    simp only [World.size_alloc] at T1
    have t0 := (T1).cell 0
    have t1 := (T1).cell 1
    have t2 := (T1).cell 2
    have t3 := (T1).cell 3
    have t4 := (T1).cell 4
    have t5 := (T1).cell 5
    have t6 := (T1).cell 6
    have t7 := (T1).cell 7
    have t8 := (T1).cell 8
    have t9 := (T1).cell 9
    simp only [List.getElem?_toArray, List.getElem?_cons_zero, List.getElem?_cons_succ] at t0 t1 t2 t3 t4 t5 t6 t7 t8 t9
    have f0 := (R1).cell 0
    simp only [List.getElem?_toArray, List.getElem?_cons_zero, List.getElem?_cons_succ] at f0
    have z1 := T1.lt
    have y1 := R1.lt
    clear b1
    go_wp2_with fail
    refine wp_loop_rounds 6 ?_
    rw [rounds_succ]
    go_wp2_with fail
    refine (HD1.out _ (balloc c1 _)).mono ?_
    rw [HQ1.out]
    rintro e w2 ⟨rfl, b2⟩
    have p2 := bnext (balloc (Below.refl _ w1) _) b2
    have T2 := T1.below p2 T1.lt
    have R2 := R1.below p2 R1.lt
    have q2 := (Blk.new w1 82 #[.int .i64 150, .func (.func 53) #[] #[]]).below b2 (by simp)
    have q0 := (q2).cell 0
    have q1 := (q2).cell 1
    simp only [List.getElem?_toArray, List.getElem?_cons_zero, List.getElem?_cons_succ] at q0 q1
    have c2 := bnext c1 p2
    clear T1 R1 c1 z1 y1 b2 p2 q2
    clear t0 t1 t2 t3 t4 t5 t6 t7 t8 t9 f0
    have t0 := (T2).cell 0
    have t1 := (T2).cell 1
    have t2 := (T2).cell 2
    have t3 := (T2).cell 3
    have t4 := (T2).cell 4
    have t5 := (T2).cell 5
    have t6 := (T2).cell 6
    have t7 := (T2).cell 7
    have t8 := (T2).cell 8
    have t9 := (T2).cell 9
    simp only [List.getElem?_toArray, List.getElem?_cons_zero, List.getElem?_cons_succ] at t0 t1 t2 t3 t4 t5 t6 t7 t8 t9
    have f0 := (R2).cell 0
    simp only [List.getElem?_toArray, List.getElem?_cons_zero, List.getElem?_cons_succ] at f0
    have z2 := T2.lt
    have y2 := R2.lt
    clear q0 q1
    go_wp2_with fail
    rw [rounds_succ]
    go_wp2_with fail
    refine (HD2.out _ (balloc c2 _) H4.out).mono ?_
    rw [HQ2.out]
    rintro e w3 ⟨rfl, b3⟩
    have p3 := bnext (balloc (Below.refl _ w2) _) b3
    have T3 := T2.below p3 T2.lt
    have R3 := R2.below p3 R2.lt
    have q3 := (Blk.new w2 82 #[.int .i64 151, .func (.func 54) #[] #[]]).below b3 (by simp)
    have q0 := (q3).cell 0
    have q1 := (q3).cell 1
    simp only [List.getElem?_toArray, List.getElem?_cons_zero, List.getElem?_cons_succ] at q0 q1
    have c3 := bnext c2 p3
    clear T2 R2 c2 z2 y2 b3 p3 q3
    clear t0 t1 t2 t3 t4 t5 t6 t7 t8 t9 f0
    have t0 := (T3).cell 0
    have t1 := (T3).cell 1
    have t2 := (T3).cell 2
    have t3 := (T3).cell 3
    have t4 := (T3).cell 4
    have t5 := (T3).cell 5
    have t6 := (T3).cell 6
    have t7 := (T3).cell 7
    have t8 := (T3).cell 8
    have t9 := (T3).cell 9
    simp only [List.getElem?_toArray, List.getElem?_cons_zero, List.getElem?_cons_succ] at t0 t1 t2 t3 t4 t5 t6 t7 t8 t9
    have f0 := (R3).cell 0
    simp only [List.getElem?_toArray, List.getElem?_cons_zero, List.getElem?_cons_succ] at f0
    have z3 := T3.lt
    have y3 := R3.lt
    go_wp2_with fail
    exact ⟨rfl, rfl, c3⟩
  by_cases h3 : at8 l 1 = 2
  case neg =>
    rw [show decE l = 152 by unfold decE; rw [if_neg (by rw [HN.out]; omega), if_neg (by rw [HN.out]; exact fun hh => hh h2), if_pos h3]]
    have HQ1 := Lib.hid (show decide (4 ≤ n) = true from decide_eq_true h1)
    have HQ2 := Lib.hid (show decide ((n - 4) % 20 = 0 ∧ n ≤ 504) = true from decide_eq_true h2)
    have HQ3 := Lib.hid (show decide (at8 l 1 = 2) = false from decide_eq_false h3)
    have H4 := Lib.hid h1
    clear h1 h2 h3
    go_enter Tryd.func24, Tryd.ntmps24
    go_wp2_with fail
    refine (demands_any _).mono ?_
    rintro e w1 ⟨rfl, T1, b1⟩
    have R1 := (Blk.new w 63 #[.slice A n c]).below b1 (by simp)
    have c1 := bnext (balloc (Below.refl _ w) _) b1
    unfold demC at T1
    simp only [World.size_alloc] at T1
    have t0 := (T1).cell 0
    have t1 := (T1).cell 1
    have t2 := (T1).cell 2
    have t3 := (T1).cell 3
    have t4 := (T1).cell 4
    have t5 := (T1).cell 5
    have t6 := (T1).cell 6
    have t7 := (T1).cell 7
    have t8 := (T1).cell 8
    have t9 := (T1).cell 9
    simp only [List.getElem?_toArray, List.getElem?_cons_zero, List.getElem?_cons_succ] at t0 t1 t2 t3 t4 t5 t6 t7 t8 t9
    have f0 := (R1).cell 0
    simp only [List.getElem?_toArray, List.getElem?_cons_zero, List.getElem?_cons_succ] at f0
    have z1 := T1.lt
    have y1 := R1.lt
    clear b1
    go_wp2_with fail
    refine wp_loop_rounds 6 ?_
    rw [rounds_succ]
    go_wp2_with fail
    refine (HD1.out _ (balloc c1 _)).mono ?_
    rw [HQ1.out]
    rintro e w2 ⟨rfl, b2⟩
    have p2 := bnext (balloc (Below.refl _ w1) _) b2
    have T2 := T1.below p2 T1.lt
    have R2 := R1.below p2 R1.lt
    have q2 := (Blk.new w1 82 #[.int .i64 150, .func (.func 53) #[] #[]]).below b2 (by simp)
    have q0 := (q2).cell 0
    have q1 := (q2).cell 1
    simp only [List.getElem?_toArray, List.getElem?_cons_zero, List.getElem?_cons_succ] at q0 q1
    have c2 := bnext c1 p2
    clear T1 R1 c1 z1 y1 b2 p2 q2
    clear t0 t1 t2 t3 t4 t5 t6 t7 t8 t9 f0
    have t0 := (T2).cell 0
    have t1 := (T2).cell 1
    have t2 := (T2).cell 2
    have t3 := (T2).cell 3
    have t4 := (T2).cell 4
    have t5 := (T2).cell 5
    have t6 := (T2).cell 6
    have t7 := (T2).cell 7
    have t8 := (T2).cell 8
    have t9 := (T2).cell 9
    simp only [List.getElem?_toArray, List.getElem?_cons_zero, List.getElem?_cons_succ] at t0 t1 t2 t3 t4 t5 t6 t7 t8 t9
    have f0 := (R2).cell 0
    simp only [List.getElem?_toArray, List.getElem?_cons_zero, List.getElem?_cons_succ] at f0
    have z2 := T2.lt
    have y2 := R2.lt
    clear q0 q1
    go_wp2_with fail
    rw [rounds_succ]
    go_wp2_with fail
    refine (HD2.out _ (balloc c2 _) H4.out).mono ?_
    rw [HQ2.out]
    rintro e w3 ⟨rfl, b3⟩
    have p3 := bnext (balloc (Below.refl _ w2) _) b3
    have T3 := T2.below p3 T2.lt
    have R3 := R2.below p3 R2.lt
    have q3 := (Blk.new w2 82 #[.int .i64 151, .func (.func 54) #[] #[]]).below b3 (by simp)
    have q0 := (q3).cell 0
    have q1 := (q3).cell 1
    simp only [List.getElem?_toArray, List.getElem?_cons_zero, List.getElem?_cons_succ] at q0 q1
    have c3 := bnext c2 p3
    clear T2 R2 c2 z2 y2 b3 p3 q3
    clear t0 t1 t2 t3 t4 t5 t6 t7 t8 t9 f0
    have t0 := (T3).cell 0
    have t1 := (T3).cell 1
    have t2 := (T3).cell 2
    have t3 := (T3).cell 3
    have t4 := (T3).cell 4
    have t5 := (T3).cell 5
    have t6 := (T3).cell 6
    have t7 := (T3).cell 7
    have t8 := (T3).cell 8
    have t9 := (T3).cell 9
    simp only [List.getElem?_toArray, List.getElem?_cons_zero, List.getElem?_cons_succ] at t0 t1 t2 t3 t4 t5 t6 t7 t8 t9
    have f0 := (R3).cell 0
    simp only [List.getElem?_toArray, List.getElem?_cons_zero, List.getElem?_cons_succ] at f0
    have z3 := T3.lt
    have y3 := R3.lt
    clear q0 q1
    go_wp2_with fail
    rw [rounds_succ]
    go_wp2_with fail
    refine (HD3.out _ (balloc c3 _) H4.out).mono ?_
    rw [HQ3.out]
    rintro e w4 ⟨rfl, b4⟩
    have p4 := bnext (balloc (Below.refl _ w3) _) b4
    have T4 := T3.below p4 T3.lt
    have R4 := R3.below p4 R3.lt
    have q4 := (Blk.new w3 82 #[.int .i64 152, .func (.func 55) #[] #[]]).below b4 (by simp)
    have q0 := (q4).cell 0
    have q1 := (q4).cell 1
    simp only [List.getElem?_toArray, List.getElem?_cons_zero, List.getElem?_cons_succ] at q0 q1
    have c4 := bnext c3 p4
    clear T3 R3 c3 z3 y3 b4 p4 q4
    clear t0 t1 t2 t3 t4 t5 t6 t7 t8 t9 f0
    have t0 := (T4).cell 0
    have t1 := (T4).cell 1
    have t2 := (T4).cell 2
    have t3 := (T4).cell 3
    have t4 := (T4).cell 4
    have t5 := (T4).cell 5
    have t6 := (T4).cell 6
    have t7 := (T4).cell 7
    have t8 := (T4).cell 8
    have t9 := (T4).cell 9
    simp only [List.getElem?_toArray, List.getElem?_cons_zero, List.getElem?_cons_succ] at t0 t1 t2 t3 t4 t5 t6 t7 t8 t9
    have f0 := (R4).cell 0
    simp only [List.getElem?_toArray, List.getElem?_cons_zero, List.getElem?_cons_succ] at f0
    have z4 := T4.lt
    have y4 := R4.lt
    go_wp2_with fail
    exact ⟨rfl, rfl, c4⟩
  by_cases h4 : cmdB (at8 l 0) = true
  case neg =>
    rw [show decE l = 153 by unfold decE; rw [if_neg (by rw [HN.out]; omega), if_neg (by rw [HN.out]; exact fun hh => hh h2), if_neg (by intro hh; exact hh h3), if_pos (by simpa using h4)]]
    have HQ1 := Lib.hid (show decide (4 ≤ n) = true from decide_eq_true h1)
    have HQ2 := Lib.hid (show decide ((n - 4) % 20 = 0 ∧ n ≤ 504) = true from decide_eq_true h2)
    have HQ3 := Lib.hid (show decide (at8 l 1 = 2) = true from decide_eq_true h3)
    have HQ4 := Lib.hid (show cmdB (at8 l 0) = false from by simpa using h4)
    have H4 := Lib.hid h1
    clear h1 h2 h3 h4
    go_enter Tryd.func24, Tryd.ntmps24
    go_wp2_with fail
    refine (demands_any _).mono ?_
    rintro e w1 ⟨rfl, T1, b1⟩
    have R1 := (Blk.new w 63 #[.slice A n c]).below b1 (by simp)
    have c1 := bnext (balloc (Below.refl _ w) _) b1
    unfold demC at T1
    simp only [World.size_alloc] at T1
    have t0 := (T1).cell 0
    have t1 := (T1).cell 1
    have t2 := (T1).cell 2
    have t3 := (T1).cell 3
    have t4 := (T1).cell 4
    have t5 := (T1).cell 5
    have t6 := (T1).cell 6
    have t7 := (T1).cell 7
    have t8 := (T1).cell 8
    have t9 := (T1).cell 9
    simp only [List.getElem?_toArray, List.getElem?_cons_zero, List.getElem?_cons_succ] at t0 t1 t2 t3 t4 t5 t6 t7 t8 t9
    have f0 := (R1).cell 0
    simp only [List.getElem?_toArray, List.getElem?_cons_zero, List.getElem?_cons_succ] at f0
    have z1 := T1.lt
    have y1 := R1.lt
    clear b1
    go_wp2_with fail
    refine wp_loop_rounds 6 ?_
    rw [rounds_succ]
    go_wp2_with fail
    refine (HD1.out _ (balloc c1 _)).mono ?_
    rw [HQ1.out]
    rintro e w2 ⟨rfl, b2⟩
    have p2 := bnext (balloc (Below.refl _ w1) _) b2
    have T2 := T1.below p2 T1.lt
    have R2 := R1.below p2 R1.lt
    have q2 := (Blk.new w1 82 #[.int .i64 150, .func (.func 53) #[] #[]]).below b2 (by simp)
    have q0 := (q2).cell 0
    have q1 := (q2).cell 1
    simp only [List.getElem?_toArray, List.getElem?_cons_zero, List.getElem?_cons_succ] at q0 q1
    have c2 := bnext c1 p2
    clear T1 R1 c1 z1 y1 b2 p2 q2
    clear t0 t1 t2 t3 t4 t5 t6 t7 t8 t9 f0
    have t0 := (T2).cell 0
    have t1 := (T2).cell 1
    have t2 := (T2).cell 2
    have t3 := (T2).cell 3
    have t4 := (T2).cell 4
    have t5 := (T2).cell 5
    have t6 := (T2).cell 6
    have t7 := (T2).cell 7
    have t8 := (T2).cell 8
    have t9 := (T2).cell 9
    simp only [List.getElem?_toArray, List.getElem?_cons_zero, List.getElem?_cons_succ] at t0 t1 t2 t3 t4 t5 t6 t7 t8 t9
    have f0 := (R2).cell 0
    simp only [List.getElem?_toArray, List.getElem?_cons_zero, List.getElem?_cons_succ] at f0
    have z2 := T2.lt
    have y2 := R2.lt
    clear q0 q1
    go_wp2_with fail
    rw [rounds_succ]
    go_wp2_with fail
    refine (HD2.out _ (balloc c2 _) H4.out).mono ?_
    rw [HQ2.out]
    rintro e w3 ⟨rfl, b3⟩
    have p3 := bnext (balloc (Below.refl _ w2) _) b3
    have T3 := T2.below p3 T2.lt
    have R3 := R2.below p3 R2.lt
    have q3 := (Blk.new w2 82 #[.int .i64 151, .func (.func 54) #[] #[]]).below b3 (by simp)
    have q0 := (q3).cell 0
    have q1 := (q3).cell 1
    simp only [List.getElem?_toArray, List.getElem?_cons_zero, List.getElem?_cons_succ] at q0 q1
    have c3 := bnext c2 p3
    clear T2 R2 c2 z2 y2 b3 p3 q3
    clear t0 t1 t2 t3 t4 t5 t6 t7 t8 t9 f0
    have t0 := (T3).cell 0
    have t1 := (T3).cell 1
    have t2 := (T3).cell 2
    have t3 := (T3).cell 3
    have t4 := (T3).cell 4
    have t5 := (T3).cell 5
    have t6 := (T3).cell 6
    have t7 := (T3).cell 7
    have t8 := (T3).cell 8
    have t9 := (T3).cell 9
    simp only [List.getElem?_toArray, List.getElem?_cons_zero, List.getElem?_cons_succ] at t0 t1 t2 t3 t4 t5 t6 t7 t8 t9
    have f0 := (R3).cell 0
    simp only [List.getElem?_toArray, List.getElem?_cons_zero, List.getElem?_cons_succ] at f0
    have z3 := T3.lt
    have y3 := R3.lt
    clear q0 q1
    go_wp2_with fail
    rw [rounds_succ]
    go_wp2_with fail
    refine (HD3.out _ (balloc c3 _) H4.out).mono ?_
    rw [HQ3.out]
    rintro e w4 ⟨rfl, b4⟩
    have p4 := bnext (balloc (Below.refl _ w3) _) b4
    have T4 := T3.below p4 T3.lt
    have R4 := R3.below p4 R3.lt
    have q4 := (Blk.new w3 82 #[.int .i64 152, .func (.func 55) #[] #[]]).below b4 (by simp)
    have q0 := (q4).cell 0
    have q1 := (q4).cell 1
    simp only [List.getElem?_toArray, List.getElem?_cons_zero, List.getElem?_cons_succ] at q0 q1
    have c4 := bnext c3 p4
    clear T3 R3 c3 z3 y3 b4 p4 q4
    clear t0 t1 t2 t3 t4 t5 t6 t7 t8 t9 f0
    have t0 := (T4).cell 0
    have t1 := (T4).cell 1
    have t2 := (T4).cell 2
    have t3 := (T4).cell 3
    have t4 := (T4).cell 4
    have t5 := (T4).cell 5
    have t6 := (T4).cell 6
    have t7 := (T4).cell 7
    have t8 := (T4).cell 8
    have t9 := (T4).cell 9
    simp only [List.getElem?_toArray, List.getElem?_cons_zero, List.getElem?_cons_succ] at t0 t1 t2 t3 t4 t5 t6 t7 t8 t9
    have f0 := (R4).cell 0
    simp only [List.getElem?_toArray, List.getElem?_cons_zero, List.getElem?_cons_succ] at f0
    have z4 := T4.lt
    have y4 := R4.lt
    clear q0 q1
    go_wp2_with fail
    rw [rounds_succ]
    go_wp2_with fail
    refine (HD4.out _ (balloc c4 _) H4.out).mono ?_
    rw [HQ4.out]
    rintro e w5 ⟨rfl, b5⟩
    have p5 := bnext (balloc (Below.refl _ w4) _) b5
    have T5 := T4.below p5 T4.lt
    have R5 := R4.below p5 R4.lt
    have q5 := (Blk.new w4 82 #[.int .i64 153, .func (.func 56) #[] #[]]).below b5 (by simp)
    have q0 := (q5).cell 0
    have q1 := (q5).cell 1
    simp only [List.getElem?_toArray, List.getElem?_cons_zero, List.getElem?_cons_succ] at q0 q1
    have c5 := bnext c4 p5
    clear T4 R4 c4 z4 y4 b5 p5 q5
    clear t0 t1 t2 t3 t4 t5 t6 t7 t8 t9 f0
    have t0 := (T5).cell 0
    have t1 := (T5).cell 1
    have t2 := (T5).cell 2
    have t3 := (T5).cell 3
    have t4 := (T5).cell 4
    have t5 := (T5).cell 5
    have t6 := (T5).cell 6
    have t7 := (T5).cell 7
    have t8 := (T5).cell 8
    have t9 := (T5).cell 9
    simp only [List.getElem?_toArray, List.getElem?_cons_zero, List.getElem?_cons_succ] at t0 t1 t2 t3 t4 t5 t6 t7 t8 t9
    have f0 := (R5).cell 0
    simp only [List.getElem?_toArray, List.getElem?_cons_zero, List.getElem?_cons_succ] at f0
    have z5 := T5.lt
    have y5 := R5.lt
    go_wp2_with fail
    exact ⟨rfl, rfl, c5⟩
  by_cases h5 : at8 l 2 * 256 + at8 l 3 = 0
  case neg =>
    rw [show decE l = 154 by unfold decE; rw [if_neg (by rw [HN.out]; omega), if_neg (by rw [HN.out]; exact fun hh => hh h2), if_neg (by intro hh; exact hh h3), if_neg (by rw [h4]; simp), if_pos h5]]
    have HQ1 := Lib.hid (show decide (4 ≤ n) = true from decide_eq_true h1)
    have HQ2 := Lib.hid (show decide ((n - 4) % 20 = 0 ∧ n ≤ 504) = true from decide_eq_true h2)
    have HQ3 := Lib.hid (show decide (at8 l 1 = 2) = true from decide_eq_true h3)
    have HQ4 := Lib.hid (show cmdB (at8 l 0) = true from h4)
    have HQ5 := Lib.hid (show decide (at8 l 2 * 256 + at8 l 3 = 0) = false from decide_eq_false h5)
    have H4 := Lib.hid h1
    clear h1 h2 h3 h4 h5
    go_enter Tryd.func24, Tryd.ntmps24
    go_wp2_with fail
    refine (demands_any _).mono ?_
    rintro e w1 ⟨rfl, T1, b1⟩
    have R1 := (Blk.new w 63 #[.slice A n c]).below b1 (by simp)
    have c1 := bnext (balloc (Below.refl _ w) _) b1
    unfold demC at T1
    simp only [World.size_alloc] at T1
    have t0 := (T1).cell 0
    have t1 := (T1).cell 1
    have t2 := (T1).cell 2
    have t3 := (T1).cell 3
    have t4 := (T1).cell 4
    have t5 := (T1).cell 5
    have t6 := (T1).cell 6
    have t7 := (T1).cell 7
    have t8 := (T1).cell 8
    have t9 := (T1).cell 9
    simp only [List.getElem?_toArray, List.getElem?_cons_zero, List.getElem?_cons_succ] at t0 t1 t2 t3 t4 t5 t6 t7 t8 t9
    have f0 := (R1).cell 0
    simp only [List.getElem?_toArray, List.getElem?_cons_zero, List.getElem?_cons_succ] at f0
    have z1 := T1.lt
    have y1 := R1.lt
    clear b1
    go_wp2_with fail
    refine wp_loop_rounds 6 ?_
    rw [rounds_succ]
    go_wp2_with fail
    refine (HD1.out _ (balloc c1 _)).mono ?_
    rw [HQ1.out]
    rintro e w2 ⟨rfl, b2⟩
    have p2 := bnext (balloc (Below.refl _ w1) _) b2
    have T2 := T1.below p2 T1.lt
    have R2 := R1.below p2 R1.lt
    have q2 := (Blk.new w1 82 #[.int .i64 150, .func (.func 53) #[] #[]]).below b2 (by simp)
    have q0 := (q2).cell 0
    have q1 := (q2).cell 1
    simp only [List.getElem?_toArray, List.getElem?_cons_zero, List.getElem?_cons_succ] at q0 q1
    have c2 := bnext c1 p2
    clear T1 R1 c1 z1 y1 b2 p2 q2
    clear t0 t1 t2 t3 t4 t5 t6 t7 t8 t9 f0
    have t0 := (T2).cell 0
    have t1 := (T2).cell 1
    have t2 := (T2).cell 2
    have t3 := (T2).cell 3
    have t4 := (T2).cell 4
    have t5 := (T2).cell 5
    have t6 := (T2).cell 6
    have t7 := (T2).cell 7
    have t8 := (T2).cell 8
    have t9 := (T2).cell 9
    simp only [List.getElem?_toArray, List.getElem?_cons_zero, List.getElem?_cons_succ] at t0 t1 t2 t3 t4 t5 t6 t7 t8 t9
    have f0 := (R2).cell 0
    simp only [List.getElem?_toArray, List.getElem?_cons_zero, List.getElem?_cons_succ] at f0
    have z2 := T2.lt
    have y2 := R2.lt
    clear q0 q1
    go_wp2_with fail
    rw [rounds_succ]
    go_wp2_with fail
    refine (HD2.out _ (balloc c2 _) H4.out).mono ?_
    rw [HQ2.out]
    rintro e w3 ⟨rfl, b3⟩
    have p3 := bnext (balloc (Below.refl _ w2) _) b3
    have T3 := T2.below p3 T2.lt
    have R3 := R2.below p3 R2.lt
    have q3 := (Blk.new w2 82 #[.int .i64 151, .func (.func 54) #[] #[]]).below b3 (by simp)
    have q0 := (q3).cell 0
    have q1 := (q3).cell 1
    simp only [List.getElem?_toArray, List.getElem?_cons_zero, List.getElem?_cons_succ] at q0 q1
    have c3 := bnext c2 p3
    clear T2 R2 c2 z2 y2 b3 p3 q3
    clear t0 t1 t2 t3 t4 t5 t6 t7 t8 t9 f0
    have t0 := (T3).cell 0
    have t1 := (T3).cell 1
    have t2 := (T3).cell 2
    have t3 := (T3).cell 3
    have t4 := (T3).cell 4
    have t5 := (T3).cell 5
    have t6 := (T3).cell 6
    have t7 := (T3).cell 7
    have t8 := (T3).cell 8
    have t9 := (T3).cell 9
    simp only [List.getElem?_toArray, List.getElem?_cons_zero, List.getElem?_cons_succ] at t0 t1 t2 t3 t4 t5 t6 t7 t8 t9
    have f0 := (R3).cell 0
    simp only [List.getElem?_toArray, List.getElem?_cons_zero, List.getElem?_cons_succ] at f0
    have z3 := T3.lt
    have y3 := R3.lt
    clear q0 q1
    go_wp2_with fail
    rw [rounds_succ]
    go_wp2_with fail
    refine (HD3.out _ (balloc c3 _) H4.out).mono ?_
    rw [HQ3.out]
    rintro e w4 ⟨rfl, b4⟩
    have p4 := bnext (balloc (Below.refl _ w3) _) b4
    have T4 := T3.below p4 T3.lt
    have R4 := R3.below p4 R3.lt
    have q4 := (Blk.new w3 82 #[.int .i64 152, .func (.func 55) #[] #[]]).below b4 (by simp)
    have q0 := (q4).cell 0
    have q1 := (q4).cell 1
    simp only [List.getElem?_toArray, List.getElem?_cons_zero, List.getElem?_cons_succ] at q0 q1
    have c4 := bnext c3 p4
    clear T3 R3 c3 z3 y3 b4 p4 q4
    clear t0 t1 t2 t3 t4 t5 t6 t7 t8 t9 f0
    have t0 := (T4).cell 0
    have t1 := (T4).cell 1
    have t2 := (T4).cell 2
    have t3 := (T4).cell 3
    have t4 := (T4).cell 4
    have t5 := (T4).cell 5
    have t6 := (T4).cell 6
    have t7 := (T4).cell 7
    have t8 := (T4).cell 8
    have t9 := (T4).cell 9
    simp only [List.getElem?_toArray, List.getElem?_cons_zero, List.getElem?_cons_succ] at t0 t1 t2 t3 t4 t5 t6 t7 t8 t9
    have f0 := (R4).cell 0
    simp only [List.getElem?_toArray, List.getElem?_cons_zero, List.getElem?_cons_succ] at f0
    have z4 := T4.lt
    have y4 := R4.lt
    clear q0 q1
    go_wp2_with fail
    rw [rounds_succ]
    go_wp2_with fail
    refine (HD4.out _ (balloc c4 _) H4.out).mono ?_
    rw [HQ4.out]
    rintro e w5 ⟨rfl, b5⟩
    have p5 := bnext (balloc (Below.refl _ w4) _) b5
    have T5 := T4.below p5 T4.lt
    have R5 := R4.below p5 R4.lt
    have q5 := (Blk.new w4 82 #[.int .i64 153, .func (.func 56) #[] #[]]).below b5 (by simp)
    have q0 := (q5).cell 0
    have q1 := (q5).cell 1
    simp only [List.getElem?_toArray, List.getElem?_cons_zero, List.getElem?_cons_succ] at q0 q1
    have c5 := bnext c4 p5
    clear T4 R4 c4 z4 y4 b5 p5 q5
    clear t0 t1 t2 t3 t4 t5 t6 t7 t8 t9 f0
    have t0 := (T5).cell 0
    have t1 := (T5).cell 1
    have t2 := (T5).cell 2
    have t3 := (T5).cell 3
    have t4 := (T5).cell 4
    have t5 := (T5).cell 5
    have t6 := (T5).cell 6
    have t7 := (T5).cell 7
    have t8 := (T5).cell 8
    have t9 := (T5).cell 9
    simp only [List.getElem?_toArray, List.getElem?_cons_zero, List.getElem?_cons_succ] at t0 t1 t2 t3 t4 t5 t6 t7 t8 t9
    have f0 := (R5).cell 0
    simp only [List.getElem?_toArray, List.getElem?_cons_zero, List.getElem?_cons_succ] at f0
    have z5 := T5.lt
    have y5 := R5.lt
    clear q0 q1
    go_wp2_with fail
    rw [rounds_succ]
    go_wp2_with fail
    refine (HD5.out _ (balloc c5 _) H4.out).mono ?_
    rw [HQ5.out]
    rintro e w6 ⟨rfl, b6⟩
    have p6 := bnext (balloc (Below.refl _ w5) _) b6
    have T6 := T5.below p6 T5.lt
    have R6 := R5.below p6 R5.lt
    have q6 := (Blk.new w5 82 #[.int .i64 154, .func (.func 57) #[] #[]]).below b6 (by simp)
    have q0 := (q6).cell 0
    have q1 := (q6).cell 1
    simp only [List.getElem?_toArray, List.getElem?_cons_zero, List.getElem?_cons_succ] at q0 q1
    have c6 := bnext c5 p6
    clear T5 R5 c5 z5 y5 b6 p6 q6
    clear t0 t1 t2 t3 t4 t5 t6 t7 t8 t9 f0
    have t0 := (T6).cell 0
    have t1 := (T6).cell 1
    have t2 := (T6).cell 2
    have t3 := (T6).cell 3
    have t4 := (T6).cell 4
    have t5 := (T6).cell 5
    have t6 := (T6).cell 6
    have t7 := (T6).cell 7
    have t8 := (T6).cell 8
    have t9 := (T6).cell 9
    simp only [List.getElem?_toArray, List.getElem?_cons_zero, List.getElem?_cons_succ] at t0 t1 t2 t3 t4 t5 t6 t7 t8 t9
    have f0 := (R6).cell 0
    simp only [List.getElem?_toArray, List.getElem?_cons_zero, List.getElem?_cons_succ] at f0
    have z6 := T6.lt
    have y6 := R6.lt
    go_wp2_with fail
    exact ⟨rfl, rfl, c6⟩
  rw [show decE l = 0 by unfold decE; rw [if_neg (by rw [HN.out]; omega), if_neg (by rw [HN.out]; exact fun hh => hh h2), if_neg (by intro hh; exact hh h3), if_neg (by rw [h4]; simp), if_neg (by intro hh; exact hh h5)]]
  have HQ1 := Lib.hid (show decide (4 ≤ n) = true from decide_eq_true h1)
  have HQ2 := Lib.hid (show decide ((n - 4) % 20 = 0 ∧ n ≤ 504) = true from decide_eq_true h2)
  have HQ3 := Lib.hid (show decide (at8 l 1 = 2) = true from decide_eq_true h3)
  have HQ4 := Lib.hid (show cmdB (at8 l 0) = true from h4)
  have HQ5 := Lib.hid (show decide (at8 l 2 * 256 + at8 l 3 = 0) = true from decide_eq_true h5)
  have H4 := Lib.hid h1
  clear h1 h2 h3 h4 h5
  go_enter Tryd.func24, Tryd.ntmps24
  go_wp2_with fail
  refine (demands_any _).mono ?_
  rintro e w1 ⟨rfl, T1, b1⟩
  have R1 := (Blk.new w 63 #[.slice A n c]).below b1 (by simp)
  have c1 := bnext (balloc (Below.refl _ w) _) b1
  unfold demC at T1
  simp only [World.size_alloc] at T1
  have t0 := (T1).cell 0
  have t1 := (T1).cell 1
  have t2 := (T1).cell 2
  have t3 := (T1).cell 3
  have t4 := (T1).cell 4
  have t5 := (T1).cell 5
  have t6 := (T1).cell 6
  have t7 := (T1).cell 7
  have t8 := (T1).cell 8
  have t9 := (T1).cell 9
  simp only [List.getElem?_toArray, List.getElem?_cons_zero, List.getElem?_cons_succ] at t0 t1 t2 t3 t4 t5 t6 t7 t8 t9
  have f0 := (R1).cell 0
  simp only [List.getElem?_toArray, List.getElem?_cons_zero, List.getElem?_cons_succ] at f0
  have z1 := T1.lt
  have y1 := R1.lt
  clear b1
  go_wp2_with fail
  refine wp_loop_rounds 6 ?_
  rw [rounds_succ]
  go_wp2_with fail
  refine (HD1.out _ (balloc c1 _)).mono ?_
  rw [HQ1.out]
  rintro e w2 ⟨rfl, b2⟩
  have p2 := bnext (balloc (Below.refl _ w1) _) b2
  have T2 := T1.below p2 T1.lt
  have R2 := R1.below p2 R1.lt
  have q2 := (Blk.new w1 82 #[.int .i64 150, .func (.func 53) #[] #[]]).below b2 (by simp)
  have q0 := (q2).cell 0
  have q1 := (q2).cell 1
  simp only [List.getElem?_toArray, List.getElem?_cons_zero, List.getElem?_cons_succ] at q0 q1
  have c2 := bnext c1 p2
  clear T1 R1 c1 z1 y1 b2 p2 q2
  clear t0 t1 t2 t3 t4 t5 t6 t7 t8 t9 f0
  have t0 := (T2).cell 0
  have t1 := (T2).cell 1
  have t2 := (T2).cell 2
  have t3 := (T2).cell 3
  have t4 := (T2).cell 4
  have t5 := (T2).cell 5
  have t6 := (T2).cell 6
  have t7 := (T2).cell 7
  have t8 := (T2).cell 8
  have t9 := (T2).cell 9
  simp only [List.getElem?_toArray, List.getElem?_cons_zero, List.getElem?_cons_succ] at t0 t1 t2 t3 t4 t5 t6 t7 t8 t9
  have f0 := (R2).cell 0
  simp only [List.getElem?_toArray, List.getElem?_cons_zero, List.getElem?_cons_succ] at f0
  have z2 := T2.lt
  have y2 := R2.lt
  clear q0 q1
  go_wp2_with fail
  rw [rounds_succ]
  go_wp2_with fail
  refine (HD2.out _ (balloc c2 _) H4.out).mono ?_
  rw [HQ2.out]
  rintro e w3 ⟨rfl, b3⟩
  have p3 := bnext (balloc (Below.refl _ w2) _) b3
  have T3 := T2.below p3 T2.lt
  have R3 := R2.below p3 R2.lt
  have q3 := (Blk.new w2 82 #[.int .i64 151, .func (.func 54) #[] #[]]).below b3 (by simp)
  have q0 := (q3).cell 0
  have q1 := (q3).cell 1
  simp only [List.getElem?_toArray, List.getElem?_cons_zero, List.getElem?_cons_succ] at q0 q1
  have c3 := bnext c2 p3
  clear T2 R2 c2 z2 y2 b3 p3 q3
  clear t0 t1 t2 t3 t4 t5 t6 t7 t8 t9 f0
  have t0 := (T3).cell 0
  have t1 := (T3).cell 1
  have t2 := (T3).cell 2
  have t3 := (T3).cell 3
  have t4 := (T3).cell 4
  have t5 := (T3).cell 5
  have t6 := (T3).cell 6
  have t7 := (T3).cell 7
  have t8 := (T3).cell 8
  have t9 := (T3).cell 9
  simp only [List.getElem?_toArray, List.getElem?_cons_zero, List.getElem?_cons_succ] at t0 t1 t2 t3 t4 t5 t6 t7 t8 t9
  have f0 := (R3).cell 0
  simp only [List.getElem?_toArray, List.getElem?_cons_zero, List.getElem?_cons_succ] at f0
  have z3 := T3.lt
  have y3 := R3.lt
  clear q0 q1
  go_wp2_with fail
  rw [rounds_succ]
  go_wp2_with fail
  refine (HD3.out _ (balloc c3 _) H4.out).mono ?_
  rw [HQ3.out]
  rintro e w4 ⟨rfl, b4⟩
  have p4 := bnext (balloc (Below.refl _ w3) _) b4
  have T4 := T3.below p4 T3.lt
  have R4 := R3.below p4 R3.lt
  have q4 := (Blk.new w3 82 #[.int .i64 152, .func (.func 55) #[] #[]]).below b4 (by simp)
  have q0 := (q4).cell 0
  have q1 := (q4).cell 1
  simp only [List.getElem?_toArray, List.getElem?_cons_zero, List.getElem?_cons_succ] at q0 q1
  have c4 := bnext c3 p4
  clear T3 R3 c3 z3 y3 b4 p4 q4
  clear t0 t1 t2 t3 t4 t5 t6 t7 t8 t9 f0
  have t0 := (T4).cell 0
  have t1 := (T4).cell 1
  have t2 := (T4).cell 2
  have t3 := (T4).cell 3
  have t4 := (T4).cell 4
  have t5 := (T4).cell 5
  have t6 := (T4).cell 6
  have t7 := (T4).cell 7
  have t8 := (T4).cell 8
  have t9 := (T4).cell 9
  simp only [List.getElem?_toArray, List.getElem?_cons_zero, List.getElem?_cons_succ] at t0 t1 t2 t3 t4 t5 t6 t7 t8 t9
  have f0 := (R4).cell 0
  simp only [List.getElem?_toArray, List.getElem?_cons_zero, List.getElem?_cons_succ] at f0
  have z4 := T4.lt
  have y4 := R4.lt
  clear q0 q1
  go_wp2_with fail
  rw [rounds_succ]
  go_wp2_with fail
  refine (HD4.out _ (balloc c4 _) H4.out).mono ?_
  rw [HQ4.out]
  rintro e w5 ⟨rfl, b5⟩
  have p5 := bnext (balloc (Below.refl _ w4) _) b5
  have T5 := T4.below p5 T4.lt
  have R5 := R4.below p5 R4.lt
  have q5 := (Blk.new w4 82 #[.int .i64 153, .func (.func 56) #[] #[]]).below b5 (by simp)
  have q0 := (q5).cell 0
  have q1 := (q5).cell 1
  simp only [List.getElem?_toArray, List.getElem?_cons_zero, List.getElem?_cons_succ] at q0 q1
  have c5 := bnext c4 p5
  clear T4 R4 c4 z4 y4 b5 p5 q5
  clear t0 t1 t2 t3 t4 t5 t6 t7 t8 t9 f0
  have t0 := (T5).cell 0
  have t1 := (T5).cell 1
  have t2 := (T5).cell 2
  have t3 := (T5).cell 3
  have t4 := (T5).cell 4
  have t5 := (T5).cell 5
  have t6 := (T5).cell 6
  have t7 := (T5).cell 7
  have t8 := (T5).cell 8
  have t9 := (T5).cell 9
  simp only [List.getElem?_toArray, List.getElem?_cons_zero, List.getElem?_cons_succ] at t0 t1 t2 t3 t4 t5 t6 t7 t8 t9
  have f0 := (R5).cell 0
  simp only [List.getElem?_toArray, List.getElem?_cons_zero, List.getElem?_cons_succ] at f0
  have z5 := T5.lt
  have y5 := R5.lt
  clear q0 q1
  go_wp2_with fail
  rw [rounds_succ]
  go_wp2_with fail
  refine (HD5.out _ (balloc c5 _) H4.out).mono ?_
  rw [HQ5.out]
  rintro e w6 ⟨rfl, b6⟩
  have p6 := bnext (balloc (Below.refl _ w5) _) b6
  have T6 := T5.below p6 T5.lt
  have R6 := R5.below p6 R5.lt
  have q6 := (Blk.new w5 82 #[.int .i64 154, .func (.func 57) #[] #[]]).below b6 (by simp)
  have q0 := (q6).cell 0
  have q1 := (q6).cell 1
  simp only [List.getElem?_toArray, List.getElem?_cons_zero, List.getElem?_cons_succ] at q0 q1
  have c6 := bnext c5 p6
  clear T5 R5 c5 z5 y5 b6 p6 q6
  clear t0 t1 t2 t3 t4 t5 t6 t7 t8 t9 f0
  have t0 := (T6).cell 0
  have t1 := (T6).cell 1
  have t2 := (T6).cell 2
  have t3 := (T6).cell 3
  have t4 := (T6).cell 4
  have t5 := (T6).cell 5
  have t6 := (T6).cell 6
  have t7 := (T6).cell 7
  have t8 := (T6).cell 8
  have t9 := (T6).cell 9
  simp only [List.getElem?_toArray, List.getElem?_cons_zero, List.getElem?_cons_succ] at t0 t1 t2 t3 t4 t5 t6 t7 t8 t9
  have f0 := (R6).cell 0
  simp only [List.getElem?_toArray, List.getElem?_cons_zero, List.getElem?_cons_succ] at f0
  have z6 := T6.lt
  have y6 := R6.lt
  clear q0 q1
  go_wp2_with fail
  rw [rounds_succ]
  go_wp2_with fail
  go_end0
  exact ⟨rfl, c6⟩
end Go.Proofs.YtpadlillbofpnaaDoor
