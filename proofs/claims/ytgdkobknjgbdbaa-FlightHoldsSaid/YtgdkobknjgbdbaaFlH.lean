/- FlightHolds: the walk. -/
import Derived.Test.YtgdkobknjgbdbaaFlHP
import Derived.Test.YtgdkobknjgbdbaaFl8
import Derived.Sort.CutIn
import Derived.IntWalk
namespace Go.Proofs.Ytgdkobknjgbdbaa
set_option linter.unusedVariables false
set_option linter.unusedSimpArgs false
open Go.RowKit Go.Shelf
attribute [local go_sem] Oper.semAt_some
set_option maxRecDepth 100000
def iv (z : Int) : Value := .int .i64 z
/-- between two rounds of the loop over the times -/
def HRel (R g N : Nat) (n0 : Nat) (w1 : World) (ds : List Deferred) (p11 p12 p13 p14 : Value) (w : World) : Prop :=
  ∃ (c put tk lost : Nat) (v : Value) (rs : List Ml) (Ds : List Nat), c ≤ N ∧ p11 = .int .i64 put ∧ p12 = .int .i64 tk ∧ p13 = .int .i64 lost ∧ p14 = .int .i64 c ∧ ds = Ds.map mkD ∧ HS w1 w n0 g R lost v rs Ds ∧ n0 ≤ w.heap.size ∧ Sat (msL rs) put c ∧ rs.length + tk + lost = put ∧ put ≤ 5 * c
def HRow (R : Nat) (d : Int) (A B : Option Addr) (N K M K2 b5 g : Nat) (u : Nat → Value) (p11 p12 p13 p14 : Value) : Array Value := [.int .i64 (R : Nat), .int .i64 d, .slice A N K, .slice B M K2, u 4, .pointer (some ⟨b5, 0, none⟩), u 6, u 7, .pointer (some ⟨b5 + 1, 0, none⟩), .pointer (some ⟨g, 0, none⟩), u 10, p11, p12, p13, p14, u 15, u 16, u 17, u 18, u 19, u 20, u 21, u 22, u 23, u 24, u 25, u 26, u 27, u 28, u 29, u 30, u 31, u 32, u 33, u 34, u 35, u 36, u 37, u 38, u 39, u 40, u 41, u 42, u 43, u 44, u 45, u 46, u 47, u 48, u 49, u 50, u 51, u 52, u 53, u 54, u 55, u 56, u 57, u 58, u 59, u 60, u 61, u 62, u 63, u 64, u 65, u 66, u 67, u 68, u 69, u 70, u 71, u 72, u 73, u 74, u 75, u 76, u 77, u 78, u 79, u 80, u 81, u 82, u 83, u 84, u 85, u 86, u 87, u 88, u 89, u 90, u 91, u 92, u 93, u 94, u 95, u 96, u 97, u 98, u 99, u 100, u 101, u 102, u 103, u 104, u 105, u 106, u 107, u 108, u 109, u 110, u 111, u 112, u 113, u 114, u 115, u 116, u 117, u 118, u 119, u 120, u 121, u 122, u 123, u 124, u 125, u 126, u 127, u 128, u 129, u 130, u 131, u 132, u 133, u 134, u 135, u 136, u 137, u 138, u 139, u 140, u 141, u 142, u 143, u 144, u 145, u 146, u 147, u 148, u 149, u 150, u 151, u 152, u 153, u 154, u 155, u 156, u 157, u 158, u 159, u 160, u 161, u 162, u 163, u 164, u 165, u 166, u 167, u 168, u 169, u 170, u 171, u 172, u 173, u 174, u 175, u 176, u 177, u 178, u 179, u 180].toArray
def HLoop (R : Nat) (d : Int) (A B : Option Addr) (N K M K2 b5 g : Nat) (w1 : World) (a : Act) (w : World) : Prop :=
  ∃ p11 p12 p13 p14 : Value, HRel R g N (b5 + 1 + 1) w1 a.defers p11 p12 p13 p14 w ∧ a.tmps = HRow R d A B N K M K2 b5 g (fun i => a.tmps.toList.getD i undef) p11 p12 p13 p14
/-- the frame within a round: more slots are named -/
def HRow2 (R : Nat) (d : Int) (A B : Option Addr) (N K M K2 b5 g : Nat) (u : Nat → Value) (p11 p12 p13 p14 p15 p19 p98 p124 : Value) : Array Value := [.int .i64 (R : Nat), .int .i64 d, .slice A N K, .slice B M K2, u 4, .pointer (some ⟨b5, 0, none⟩), u 6, u 7, .pointer (some ⟨b5 + 1, 0, none⟩), .pointer (some ⟨g, 0, none⟩), u 10, p11, p12, p13, p14, p15, u 16, u 17, u 18, p19, u 20, u 21, u 22, u 23, u 24, u 25, u 26, u 27, u 28, u 29, u 30, u 31, u 32, u 33, u 34, u 35, u 36, u 37, u 38, u 39, u 40, u 41, u 42, u 43, u 44, u 45, u 46, u 47, u 48, u 49, u 50, u 51, u 52, u 53, u 54, u 55, u 56, u 57, u 58, u 59, u 60, u 61, u 62, u 63, u 64, u 65, u 66, u 67, u 68, u 69, u 70, u 71, u 72, u 73, u 74, u 75, u 76, u 77, u 78, u 79, u 80, u 81, u 82, u 83, u 84, u 85, u 86, u 87, u 88, u 89, u 90, u 91, u 92, u 93, u 94, u 95, u 96, u 97, p98, u 99, u 100, u 101, u 102, u 103, u 104, u 105, u 106, u 107, u 108, u 109, u 110, u 111, u 112, u 113, u 114, u 115, u 116, u 117, u 118, u 119, u 120, u 121, u 122, u 123, p124, u 125, u 126, u 127, u 128, u 129, u 130, u 131, u 132, u 133, u 134, u 135, u 136, u 137, u 138, u 139, u 140, u 141, u 142, u 143, u 144, u 145, u 146, u 147, u 148, u 149, u 150, u 151, u 152, u 153, u 154, u 155, u 156, u 157, u 158, u 159, u 160, u 161, u 162, u 163, u 164, u 165, u 166, u 167, u 168, u 169, u 170, u 171, u 172, u 173, u 174, u 175, u 176, u 177, u 178, u 179, u 180].toArray
set_option maxHeartbeats 4000000 in
theorem flightholds_no (rm d : Int) (N K M K2 : Nat) (A B : Option Addr) (w : World) (h : ¬ ((1 ≤ rm ∧ rm ≤ 20) ∧ (0 ≤ d ∧ d ≤ 10) ∧ N ≤ 40 ∧ M ≤ 40)) :
    Calls Try.prog 3 #[.int .i64 rm, .int .i64 d, .slice A N K, .slice B M K2] w fun e w' => e = .returned (.bool true) ∧ Below w.heap.size w w' := by
  by_cases k0 : rm < 1
  · have g0 : decide (rm < 1) = true := decide_eq_true (by omega)
    clear h k0
    go_enter Try.func3, Try.ntmps3
    go_wp2_with fail
    refine (works19_any _).mono ?_
    rintro e w2 ⟨rfl, b2⟩
    have hB := boxed_below (Boxed.new (w.alloc (.cells #[.int .i64 d] 2)) 4 (.bool false)) b2 (by simp)
    simp only [World.size_alloc] at hB
    have c1 := hB.cell
    have f1 := hB.frozen
    have d1 := (hB.set (.bool true)).cell
    have b3 := bnext (balloc (balloc (Below.refl _ w) (.cells #[.int .i64 d] 2)) (.cells #[.bool false] 4)) b2
    go_wp2_with fail
    refine bodyPost_ret (v := .bool true) (by simp [results, Try.results3, go_sem, d1]) rfl ⟨rfl, ?_⟩
    exact b3.setCell (p := ⟨w.heap.size + 1, 0, none⟩) (by simp) _
  by_cases k1 : 20 < rm
  · have g0 : decide (rm < 1) = false := decide_eq_false (by omega)
    have g1 : decide (20 < rm) = true := decide_eq_true (by omega)
    clear h k0 k1
    go_enter Try.func3, Try.ntmps3
    go_wp2_with fail
    refine (works19_any _).mono ?_
    rintro e w2 ⟨rfl, b2⟩
    have hB := boxed_below (Boxed.new (w.alloc (.cells #[.int .i64 d] 2)) 4 (.bool false)) b2 (by simp)
    simp only [World.size_alloc] at hB
    have c1 := hB.cell
    have f1 := hB.frozen
    have d1 := (hB.set (.bool true)).cell
    have b3 := bnext (balloc (balloc (Below.refl _ w) (.cells #[.int .i64 d] 2)) (.cells #[.bool false] 4)) b2
    go_wp2_with fail
    refine bodyPost_ret (v := .bool true) (by simp [results, Try.results3, go_sem, d1]) rfl ⟨rfl, ?_⟩
    exact b3.setCell (p := ⟨w.heap.size + 1, 0, none⟩) (by simp) _
  by_cases k2 : d < 0
  · have g0 : decide (rm < 1) = false := decide_eq_false (by omega)
    have g1 : decide (20 < rm) = false := decide_eq_false (by omega)
    have g2 : decide (d < 0) = true := decide_eq_true (by omega)
    clear h k0 k1 k2
    go_enter Try.func3, Try.ntmps3
    go_wp2_with fail
    refine (works19_any _).mono ?_
    rintro e w2 ⟨rfl, b2⟩
    have hB := boxed_below (Boxed.new (w.alloc (.cells #[.int .i64 d] 2)) 4 (.bool false)) b2 (by simp)
    simp only [World.size_alloc] at hB
    have c1 := hB.cell
    have f1 := hB.frozen
    have d1 := (hB.set (.bool true)).cell
    have b3 := bnext (balloc (balloc (Below.refl _ w) (.cells #[.int .i64 d] 2)) (.cells #[.bool false] 4)) b2
    go_wp2_with fail
    refine bodyPost_ret (v := .bool true) (by simp [results, Try.results3, go_sem, d1]) rfl ⟨rfl, ?_⟩
    exact b3.setCell (p := ⟨w.heap.size + 1, 0, none⟩) (by simp) _
  by_cases k3 : 10 < d
  · have g0 : decide (rm < 1) = false := decide_eq_false (by omega)
    have g1 : decide (20 < rm) = false := decide_eq_false (by omega)
    have g2 : decide (d < 0) = false := decide_eq_false (by omega)
    have g3 : decide (10 < d) = true := decide_eq_true (by omega)
    clear h k0 k1 k2 k3
    go_enter Try.func3, Try.ntmps3
    go_wp2_with fail
    refine (works19_any _).mono ?_
    rintro e w2 ⟨rfl, b2⟩
    have hB := boxed_below (Boxed.new (w.alloc (.cells #[.int .i64 d] 2)) 4 (.bool false)) b2 (by simp)
    simp only [World.size_alloc] at hB
    have c1 := hB.cell
    have f1 := hB.frozen
    have d1 := (hB.set (.bool true)).cell
    have b3 := bnext (balloc (balloc (Below.refl _ w) (.cells #[.int .i64 d] 2)) (.cells #[.bool false] 4)) b2
    go_wp2_with fail
    refine bodyPost_ret (v := .bool true) (by simp [results, Try.results3, go_sem, d1]) rfl ⟨rfl, ?_⟩
    exact b3.setCell (p := ⟨w.heap.size + 1, 0, none⟩) (by simp) _
  by_cases k4 : (40 : Int) < N
  · have g0 : decide (rm < 1) = false := decide_eq_false (by omega)
    have g1 : decide (20 < rm) = false := decide_eq_false (by omega)
    have g2 : decide (d < 0) = false := decide_eq_false (by omega)
    have g3 : decide (10 < d) = false := decide_eq_false (by omega)
    have g4 : decide ((40 : Int) < N) = true := decide_eq_true (by omega)
    have g4' : decide (40 < N) = true := decide_eq_true (by omega)
    clear h k0 k1 k2 k3 k4
    go_enter Try.func3, Try.ntmps3
    go_wp2_with fail
    refine (works19_any _).mono ?_
    rintro e w2 ⟨rfl, b2⟩
    have hB := boxed_below (Boxed.new (w.alloc (.cells #[.int .i64 d] 2)) 4 (.bool false)) b2 (by simp)
    simp only [World.size_alloc] at hB
    have c1 := hB.cell
    have f1 := hB.frozen
    have d1 := (hB.set (.bool true)).cell
    have b3 := bnext (balloc (balloc (Below.refl _ w) (.cells #[.int .i64 d] 2)) (.cells #[.bool false] 4)) b2
    go_wp2_with fail
    refine bodyPost_ret (v := .bool true) (by simp [results, Try.results3, go_sem, d1]) rfl ⟨rfl, ?_⟩
    exact b3.setCell (p := ⟨w.heap.size + 1, 0, none⟩) (by simp) _
  by_cases k5 : (40 : Int) < M
  · have g0 : decide (rm < 1) = false := decide_eq_false (by omega)
    have g1 : decide (20 < rm) = false := decide_eq_false (by omega)
    have g2 : decide (d < 0) = false := decide_eq_false (by omega)
    have g3 : decide (10 < d) = false := decide_eq_false (by omega)
    have g4 : decide ((40 : Int) < N) = false := decide_eq_false (by omega)
    have g4' : decide (40 < N) = false := decide_eq_false (by omega)
    have g5 : decide ((40 : Int) < M) = true := decide_eq_true (by omega)
    have g5' : decide (40 < M) = true := decide_eq_true (by omega)
    clear h k0 k1 k2 k3 k4 k5
    go_enter Try.func3, Try.ntmps3
    go_wp2_with fail
    refine (works19_any _).mono ?_
    rintro e w2 ⟨rfl, b2⟩
    have hB := boxed_below (Boxed.new (w.alloc (.cells #[.int .i64 d] 2)) 4 (.bool false)) b2 (by simp)
    simp only [World.size_alloc] at hB
    have c1 := hB.cell
    have f1 := hB.frozen
    have d1 := (hB.set (.bool true)).cell
    have b3 := bnext (balloc (balloc (Below.refl _ w) (.cells #[.int .i64 d] 2)) (.cells #[.bool false] 4)) b2
    go_wp2_with fail
    refine bodyPost_ret (v := .bool true) (by simp [results, Try.results3, go_sem, d1]) rfl ⟨rfl, ?_⟩
    exact b3.setCell (p := ⟨w.heap.size + 1, 0, none⟩) (by simp) _
  · exact absurd ⟨by omega, by omega, by omega, by omega⟩ h

set_option maxHeartbeats 40000000 in
theorem flightholds_yes (R : Nat) (d : Int) (ms ps : List Int) (N K M K2 : Nat) (hN : ms.length = N) (hM : ps.length = M) (A B : Option Addr) (w : World) (hr : Rd w w.heap.size A (ms.map iv)) (hp : Rd w w.heap.size B (ps.map iv)) (hNK : N ≤ K ∧ K ≤ 9223372036854775807) (hMK : M ≤ K2 ∧ K2 ≤ 9223372036854775807)
    (hR : 1 ≤ R ∧ R ≤ 20) (hd : 0 ≤ d ∧ d ≤ 10) (hN40 : N ≤ 40) (hM40 : M ≤ 40) :
    Calls Try.prog 3 #[.int .i64 R, .int .i64 d, .slice A N K, .slice B M K2] w fun e w' => e = .returned (.bool true) ∧ Below w.heap.size w w' := by
  have B2 : Below w.heap.size w ((w.alloc (.cells #[.int .i64 d] 2)).alloc (.cells #[.bool false] 4)) := balloc (balloc (Below.refl _ _) _) _
  have z0 := (Boxed.new w 2 (.int .i64 d)).alloc (.cells #[.bool false] 4)
  have z1 := Boxed.new (w.alloc (.cells #[.int .i64 d] 2)) 4 (.bool false)
  simp only [World.size_alloc] at z1
  have hs1 : ((w.alloc (.cells #[.int .i64 d] 2)).alloc (.cells #[.bool false] 4)).heap.size = w.heap.size + 1 + 1 := by simp
  obtain ⟨w1, hw1⟩ : ∃ w1, w1 = (w.alloc (.cells #[.int .i64 d] 2)).alloc (.cells #[.bool false] 4) := ⟨_, rfl⟩
  rw [← hw1] at B2 z0 z1 hs1
  have HW1 := Lib.hid hw1
  have X := Lib.hid (And.intro z0 (And.intro z1 B2))
  have HA := Lib.hid (hr.below B2)
  have HB := Lib.hid (hp.below B2)
  have HN := Lib.hid hN
  have HM := Lib.hid hM
  have HNEW := Lib.hid (new_ok R (w.heap.size + 1 + 1) w1 (by omega) (by omega))
  have HSZ := Lib.hid hs1
  have g0 : decide ((R : Int) < 1) = false := decide_eq_false (by omega)
  have g1 : decide (20 < (R : Int)) = false := decide_eq_false (by omega)
  have g1' : decide (20 < R) = false := decide_eq_false (by omega)
  have g2 : decide (d < 0) = false := decide_eq_false (by omega)
  have g3 : decide (10 < d) = false := decide_eq_false (by omega)
  have g4 : decide ((40 : Int) < N) = false := decide_eq_false (by omega)
  have g4' : decide (40 < N) = false := decide_eq_false (by omega)
  have g5 : decide ((40 : Int) < M) = false := decide_eq_false (by omega)
  have g5' : decide (40 < M) = false := decide_eq_false (by omega)
  clear hr hp hN hM z0 z1 B2 hs1
  refine (callsIn_wide (n := 6)).1 ?_
  refine callsIn_of_wp_marks Try.func3 rfl trivial ?_ rfl
  simp only [Try.ntmps3, List.size_toArray, List.length_cons, List.length_nil, Nat.reduceAdd, Nat.reduceSub, Array.replicate_succ, Array.replicate_zero, List.push_toArray, List.append_toArray, List.nil_append, List.cons_append]
  gi_wp2_with fail
  rw [← HW1.out]
  clear g0 g1 g1' g2 g3 g4 g4' g5 g5' hw1
  refine ⟨trivial, ?_⟩
  gi_at_call 9
  refine (callsIn_wide.2 HNEW.out).mono ?_
  rintro e w2 ⟨g, rfl, hF, hg, b2⟩
  have hb2 : Below (w.heap.size + 1 + 1) w1 w2 := b2.mono (Nat.le_of_eq HSZ.out.symm)
  have HF := Lib.hid hF
  clear hF b2 HNEW
  gi_wp2_with (first | (refine ⟨trivial, ?_⟩; gi_at_call 10; refine (callsIn_wide.2 (num19_any _ _)).mono ?_; rintro e w' ⟨rfl, rfl⟩))
  refine wpIn_loop (HLoop R d A B N K M K2 w.heap.size g w1) (fun a _ => N + 1 - (intOf (a.tmps.getD 14 undef)).toNat) ?_ ?_
  · refine ⟨_, _, _, _, ⟨0, 0, 0, 0, _, [], [], Nat.zero_le _, rfl, rfl, rfl, rfl, rfl, ⟨HF.out, hb2, by simp, by simp⟩, by have := hb2.size; rw [HSZ.out] at this; exact this, Sat.nil _ _, rfl, by omega⟩, ?_⟩
    rfl
  rintro ⟨T, D⟩ wr ⟨p11, p12, p13, p14, ⟨c, put, tk, lost, v, rs, Ds, hc, rfl, rfl, rfl, rfl, hds, S, hwr, hsat, hsum, hput⟩, hT⟩
  simp only at hds hT
  subst hds
  generalize (fun i => T.toList.getD i undef) = u at hT
  subst hT
  unfold HRow
  clear HF hb2 hg w2
  have y0 := boxed_below X.out.1 S.base (by omega)
  have y1 := boxed_below X.out.2.1 S.base (by omega)
  by_cases hlt : c < N
  case neg =>
    obtain rfl : c = N := by omega
    gi_wp2_with (first | (refine ⟨trivial, ?_⟩; gi_at_call 8; refine (callsIn_wide.2 (works19_any _)).mono ?_; rintro e w9 ⟨rfl, b9⟩; have z9 := boxed_below y1 b9 y1.lt; have q9 := z9.cell; have k9 := z9.frozen))
    have S9 := S.below b9 hwr
    have r9 := (z9.set (.bool true)).cell
    have bset : Below (w.heap.size + 1) w9 (w9.setCell ⟨w.heap.size + 1, 0, none⟩ (.bool true)) := (Below.refl _ _).setCell (p := ⟨w.heap.size + 1, 0, none⟩) (Nat.le_refl _) _
    refine leaves_marks (w.heap.size + 1 + 1) Ds _ S9.nd (fun D hD => ⟨(S9.defs D hD).1, ?_⟩) (fun w' hb hs => ?_)
    · exact (KeepsOthers.setCell w9 ⟨w.heap.size + 1, 0, none⟩ (.bool true)).same D _ (S9.defs D hD).2 rfl
    · have r10 := (hb.cell (p := ⟨w.heap.size + 1, 0, none⟩) (by show w.heap.size + 1 < _; omega)).trans r9
      refine ⟨.bool true, by simp [results, Try.f3, go_sem, r10], rfl, ?_⟩
      exact (X.out.2.2.trans (S9.base.mono (by omega))).trans ((bset.mono (by omega)).trans (hb.mono (by omega)))
  case pos =>
    have hc1 : (c : Int) < (N : Int) := by omega
    gi_wp2_with fail
    have hbt := Boxed.new wr 2 (.int .i64 c)
    have hba : Below wr.heap.size wr (wr.alloc (.cells #[.int .i64 c] 2)) := balloc (Below.refl _ _) _
    have Sa := S.below hba hwr
    have hkt : Kp g v wr.heap.size := ⟨by have := S.fl.blk.lt; omega, fun e => by have := S.fl.row_lt _ e; omega⟩
    have hwa : w.heap.size + 1 + 1 ≤ (wr.alloc (.cells #[.int .i64 c] 2)).heap.size := Nat.le_trans hwr hba.size
    obtain ⟨bt, hbtn⟩ : ∃ bt, wr.heap.size = bt := ⟨_, rfl⟩
    rw [hbtn] at hbt hkt ⊢
    have hbtl : w.heap.size + 1 + 1 ≤ bt := by omega
    generalize wr.alloc (.cells #[.int .i64 c] 2) = wa at *
    clear hba S y0 y1
    gi_loopw [12, 16] (fun a b wr => ∃ (k tk : Nat) (v : Value) (rs : List Ml), a = .int .i64 tk ∧ b = .int .i64 k ∧ HS w1 wr (w.heap.size + 1 + 1) g R lost v rs Ds ∧ w.heap.size + 1 + 1 ≤ wr.heap.size ∧ Sat (msL rs) put c ∧ rs.length + tk + lost = put ∧ k + rs.length ≤ 20 ∧ Boxed wr bt 2 (.int .i64 c) ∧ Kp g v bt) (fun _ b _ => 50 - (intOf b).toNat)
    case atStart => exact ⟨0, tk, v, rs, rfl, rfl, Sa, hwa, hsat, hsum, by have := Sa.fl.len; omega, hbt, hkt⟩
    case round =>
      clear Sa hwa hsat hsum hbt hkt
      obtain ⟨k, tk, v, rs, rfl, rfl, S, hwr, hsat, hsum, hk, hbt, hkt⟩ := hrel
      have hk50 : (k : Int) < 50 := by omega
      have q5 := (boxed_below X.out.1 S.base (by omega)).cell
      have qt := hbt.cell
      have HLT := Lib.hid (lateg_any c d S.fl hwr (by omega))
      have hlen := msL_len rs
      rcases late_cases c d (msL rs) hd.1 with he | he
      case inl =>
        obtain ⟨l1, l2, l3, l4⟩ := late_yes hd.1 he
        have hst := hsat.st _ l3
        have hsat' := hsat.sub l2
        rw [he] at HLT
        simp only [GivesM, mlA] at HLT
        have HL1 := Lib.hid l1
        have HSA := Lib.hid hsat'
        clear l1 l2 l3 he hsat hsat'
        generalize lateP c d (msL rs) = lp at *
        obtain ⟨⟨m0, m1, m2, m3, mb, m5⟩, lpe⟩ := lp
        simp only at HLT l4 hst
        have hdl : decide ((c : Int) - m5 < d) = false := decide_eq_false (by omega)
        gi_wp2_with fail
        refine ⟨trivial, ?_⟩
        gi_at_call 11
        refine (callsIn_wide.2 HLT.out).mono ?_
        rintro e w3 ⟨⟨A1, c1, rfl, _, _, _, _⟩, v3, rs3, hg3, hms3, _⟩
        have S3 := Lib.hid (S.goes hg3 hwr)
        have hbt3 : Boxed w3 bt 2 (.int .i64 c) := hg3.2.1.blk hbt hkt
        have hkt3 := hg3.kp hbt.lt hkt
        have hw3 : w.heap.size + 1 + 1 ≤ w3.heap.size := Nat.le_trans hwr hg3.2.1.2.2.2.1
        have hl3 := msL_len rs3
        rw [← hms3] at HL1 HSA
        clear q5 qt HLT S hg3 hbt hkt
        have q5 := (boxed_below X.out.1 S3.out.base (by omega)).cell
        have qt := hbt3.cell
        have q5l : w.heap.size < w3.heap.size := by omega
        have qtl : bt < w3.heap.size := hbt3.lt
        gi_wp2_with (first | (refine ⟨trivial, ?_⟩; gi_at_call 10; refine (callsIn_wide.2 (num19_any _ _)).mono ?_; rintro e w' ⟨rfl, rfl⟩))
        go_roundw
        case rel =>
          have bb : Below w3.heap.size w3 (w3.alloc (.cells #[.int .i64 m0, .int .i64 m1, .int .i64 m2, .int .u32 m3, .slice A1 mb.length c1, .int .i64 m5] 33)) := balloc (Below.refl _ _) _
          have := HL1.out
          exact ⟨k + 1, tk + 1, v3, rs3, by go_num, by go_num, S3.out.below bb hw3, Nat.le_trans hw3 bb.size, HSA.out, by omega, by omega, boxed_below hbt3 bb hbt3.lt, hkt3⟩
        case measure => simp [intOf]; omega
      case inr =>
        obtain ⟨l1, hnear⟩ := late_no hd.1 hsat he
        rw [he] at HLT
        simp only [GivesM, mlA] at HLT
        have HL1 := Lib.hid l1
        clear l1 he
        generalize (lateP c d (msL rs)).1 = lp at *
        gi_wp2_with fail
        refine ⟨trivial, ?_⟩
        gi_at_call 11
        refine (callsIn_wide.2 HLT.out).mono ?_
        rintro e w3 ⟨⟨A1, c1, rfl, _, _, _, _⟩, v3, rs3, hg3, hms3, _⟩
        have S3 := Lib.hid (S.goes hg3 hwr)
        have hbt3 : Boxed w3 bt 2 (.int .i64 c) := hg3.2.1.blk hbt hkt
        have hkt3 := hg3.kp hbt.lt hkt
        have hw3 : w.heap.size + 1 + 1 ≤ w3.heap.size := Nat.le_trans hwr hg3.2.1.2.2.2.1
        rw [HL1.out] at hms3
        have hl3 : rs3.length = rs.length := by rw [← msL_len, hms3, msL_len]
        rw [← hms3] at hsat hnear
        rw [← hl3] at hsum
        clear q5 qt HLT S hg3 hbt hkt HL1 hms3 hl3 hlen hk hk50 hwr
        gi_wp2_with (first | (refine ⟨trivial, ?_⟩; gi_at_call 10; refine (callsIn_wide.2 (num19_any _ _)).mono ?_; rintro e w' ⟨rfl, rfl⟩))
        have bb : Below w3.heap.size w3 (w3.alloc (.cells #[.int .i64 lp.link, .int .i64 lp.frm, .int .i64 lp.dst, .int .u32 lp.src, .slice A1 lp.bs.length c1, .int .i64 lp.sent] 33)) := balloc (Below.refl _ _) _
        have S := S3.out.below bb hw3
        have hwr := Nat.le_trans hw3 bb.size
        have hbt := boxed_below hbt3 bb hbt3.lt
        generalize w3.alloc (.cells #[.int .i64 lp.link, .int .i64 lp.frm, .int .i64 lp.dst, .int .u32 lp.src, .slice A1 lp.bs.length c1, .int .i64 lp.sent] 33) = w4 at *
        clear bb hbt3 S3 hw3
        have hc40 : c < 40 := by omega
        obtain ⟨ba, oa, rfl, hba, hca⟩ := HA.out.at (k := c) (by rw [List.length_map, HN.out]; exact hlt)
        simp only [List.getElem_map, iv] at hca
        generalize ms[c]'(by rw [HN.out]; exact hlt) = mt at hca
        refine wpIn_loop (fun a wr => ∃ (q put lost : Nat) (v : Value) (rs : List Ml) (p98 p124 : Value), q ≤ 5 ∧ HS w1 wr (w.heap.size + 1 + 1) g R lost v rs Ds ∧ w.heap.size + 1 + 1 ≤ wr.heap.size ∧ Sat (msL rs) put c ∧ Near (msL rs) c d ∧ rs.length + tk + lost = put ∧ put ≤ 5 * c + q ∧ Boxed wr bt 2 (.int .i64 c) ∧ Kp g v bt ∧ a.defers = Ds.map mkD ∧ a.tmps = HRow2 R d (some ⟨ba, oa, none⟩) B N K M K2 w.heap.size g (fun i => a.tmps.toList.getD i undef) (.int .i64 (put : Nat)) (.int .i64 (tk : Nat)) (.int .i64 (lost : Nat)) (.int .i64 (c : Nat)) (.pointer (some ⟨bt, 0, none⟩)) (.int .i64 (q : Nat)) p98 p124) (fun a _ => 5 - (intOf (a.tmps.getD 19 undef)).toNat) ?_ ?_
        case refine_1 => exact ⟨0, put, lost, v3, rs3, _, _, by omega, S, hwr, hsat, hnear, hsum, by omega, hbt, hkt3, rfl, rfl⟩
        case refine_2 =>
          clear S hwr hsat hnear hsum hput hbt hkt3
          rintro ⟨T, D⟩ wr ⟨q, put, lost, v, rs, p98, p124, hq, S, hwr, hsat, hnear, hsum, hput, hbt, hkt, hds, hT⟩
          simp only at hds hT
          subst hds
          generalize (fun i => T.toList.getD i undef) = u at hT
          subst hT
          unfold HRow2
          dsimp only
          have qa := (S.base.cell (p := ⟨ba, oa + c, none⟩) (by show ba < _; omega)).trans hca
          have hi4 : (0 : Int) ≤ c ∧ (c : Int) < (N : Int) := by omega
          gi_upto_region 20 with fail
          refine wpIn_cut (fun a w' => wr = w' ∧ a.defers = Ds.map mkD ∧ ∃ p124, a.tmps = HRow2 R d (some ⟨ba, oa, none⟩) B N K M K2 w.heap.size g (fun i => a.tmps.toList.getD i undef) (.int .i64 (put : Nat)) (.int .i64 (tk : Nat)) (.int .i64 (lost : Nat)) (.int .i64 (c : Nat)) (.pointer (some ⟨bt, 0, none⟩)) (.int .i64 (q : Nat)) (.bool (decide ((q : Int) < mt ∧ q < 5))) p124) ?rest ?first
          case first =>
            intro _ _ _ _
            by_cases h1 : (q : Int) < mt
            · by_cases h2 : q < 5
              · have h2' : (q : Int) < 5 := by omega
                have hdc : decide ((q : Int) < mt ∧ q < 5) = true := decide_eq_true ⟨h1, h2⟩
                have HD := Lib.hid hdc
                clear hdc
                gi_wp2
                all_goals (refine Met.intro ?_; first | gi_step | go_step)
                exact ⟨rfl, rfl, _, by rw [HD.out]; rfl⟩
              · have h2' : ¬ (q : Int) < 5 := by omega
                have hdc : decide ((q : Int) < mt ∧ q < 5) = false := decide_eq_false (fun h => h2 h.2)
                have HD := Lib.hid hdc
                clear hdc
                gi_wp2
                all_goals (refine Met.intro ?_; first | gi_step | go_step)
                exact ⟨rfl, rfl, _, by rw [HD.out]; rfl⟩
            · have hdc : decide ((q : Int) < mt ∧ q < 5) = false := decide_eq_false (fun h => h1 h.1)
              have HD := Lib.hid hdc
              clear hdc
              gi_wp2
              all_goals (refine Met.intro ?_; first | gi_step | go_step)
              exact ⟨rfl, rfl, _, by rw [HD.out]; rfl⟩
          case rest =>
            rintro ⟨T, D⟩ w' ⟨hwc, hds, p124, hT⟩
            subst hwc
            simp only at hds hT
            subst hds
            generalize (fun i => T.toList.getD i undef) = u at hT
            subst hT
            unfold HRow2
            dsimp only
            by_cases hgo : (q : Int) < mt ∧ q < 5
            case pos =>
              rw [decide_eq_true hgo]
              have hq5 := hgo.2
              clear hgo qa
              have qt := hbt.cell
              have HPT := Lib.hid (putg_any ⟨mP ((put : Int) + 1) c, none, 0⟩ S.fl hwr Rd.nil (by simp [mP]))
              have hsp := hsat.put (room := R) hnear (by omega) (by omega) (by omega) hd.1
              have hsm := put_sum (put := (put : Int) + 1) (now := c) (room := R) (lost := lost) (L := msL rs) (by omega) (by omega) (by omega) (by omega)
              have her := put_err (put := (put : Int) + 1) (now := c) (room := R) (L := msL rs) (by omega) (by omega) (by omega)
              simp only [msL_len] at hsm her
              rw [her] at HPT
              clear her
              by_cases hfull : R ≤ rs.length
              case' pos => simp only [if_pos hfull] at HPT hsm
              case' neg => simp only [if_neg hfull] at HPT hsm
              all_goals
                rw [hsm.2] at HPT hsm
                have hsm1 := hsm.1
                clear hsm hfull
                simp only [mlA, mP, List.length_nil] at HPT
                gi_wp2_with fail
                refine ⟨trivial, ?_⟩
                gi_at_call 12
                refine (callsIn_wide.2 HPT.out).mono ?_
                rintro e w3 ⟨v3, rs3, rfl, hg3, hms3, _⟩
                have S3 := S.goes hg3 hwr
                have hbt3 : Boxed w3 bt 2 (.int .i64 c) := hg3.2.1.blk hbt hkt
                have hkt3 := hg3.kp hbt.lt hkt
                have hw3 : w.heap.size + 1 + 1 ≤ w3.heap.size := Nat.le_trans hwr hg3.2.1.2.2.2.1
                have hl3 := msL_len rs3
                have hms4 : msL rs3 = putL (mP ((put : Int) + 1) c) R (msL rs) := hms3
                rw [← hms4] at hsp hsm1
                rw [hl3] at hsm1
                have HSP := Lib.hid hsp
                have HS3 := Lib.hid S3
                clear qt HPT S hg3 hbt hkt hsat hnear hms3 hms4 hsp S3
                gi_wp2_with (first | (refine ⟨trivial, ?_⟩; gi_at_call 10; refine (callsIn_wide.2 (num19_any _ _)).mono ?_; rintro e w' ⟨rfl, rfl⟩))
                refine ⟨?_, ?_⟩
                case refine_2 => simp [intOf]; omega
                first
                | exact ⟨q + 1, put + 1, lost + 1, v3, rs3, _, _, by omega, HS3.out, hw3, by simpa using HSP.out.1, HSP.out.2, by omega, by omega, hbt3, hkt3, by first | rfl | trivial, by first | rfl | trivial⟩
                | exact ⟨q + 1, put + 1, lost, v3, rs3, _, _, by omega, HS3.out, hw3, by simpa using HSP.out.1, HSP.out.2, by omega, by omega, hbt3, hkt3, by first | rfl | trivial, by first | rfl | trivial⟩
            case neg =>
              rw [decide_eq_false hgo]
              clear hgo qa hi4 hca hba
              gi_upto_region 26 with fail
              refine wpIn_cut (fun a w' => wr = w' ∧ a.defers = Ds.map mkD ∧ ∃ (pk : Bool) (p98 : Value), (pk = true → ∃ (bp op : Nat) (pv : Int), B = some ⟨bp, op, none⟩ ∧ c < M ∧ bp < w.heap.size ∧ w1.cell? ⟨bp, op + c, none⟩ = some (.int .i64 pv)) ∧ a.tmps = HRow2 R d (some ⟨ba, oa, none⟩) B N K M K2 w.heap.size g (fun i => a.tmps.toList.getD i undef) (.int .i64 (put : Nat)) (.int .i64 (tk : Nat)) (.int .i64 (lost : Nat)) (.int .i64 (c : Nat)) (.pointer (some ⟨bt, 0, none⟩)) (.int .i64 (q : Nat)) p98 (.bool pk)) ?rest ?first
              case first =>
                intro _ _ _ _
                by_cases hcM : c < M
                · obtain ⟨bp, op, rfl, hbp, hcp⟩ := HB.out.at (k := c) (by rw [List.length_map, HM.out]; exact hcM)
                  simp only [List.getElem_map, iv] at hcp
                  generalize ps[c]'(by rw [HM.out]; exact hcM) = pv at hcp
                  have qp := (S.base.cell (p := ⟨bp, op + c, none⟩) (by show bp < _; omega)).trans hcp
                  have hi5 : (0 : Int) ≤ c ∧ (c : Int) < (M : Int) := by omega
                  gi_wp2
                  all_goals (refine Met.intro ?_; first | gi_step | go_step)
                  exact ⟨rfl, rfl, _, _, fun _ => ⟨bp, op, pv, rfl, hcM, hbp, hcp⟩, rfl⟩
                · have hcM' : ¬ (c : Int) < (M : Int) := by omega
                  gi_wp2
                  all_goals (refine Met.intro ?_; first | gi_step | go_step)
                  exact ⟨rfl, rfl, false, _, (fun h => by cases h), rfl⟩
              case rest =>
                rintro ⟨T, D⟩ w' ⟨hwc, hds, pk, p98, hpk, hT⟩
                subst hwc
                simp only at hds hT
                subst hds
                generalize (fun i => T.toList.getD i undef) = u at hT
                subst hT
                unfold HRow2
                dsimp only
                gi_upto_if 124 with fail
                refine wpIn_cut (fun a w' => ∃ (tk : Nat) (v : Value) (rs : List Ml) (p98 p124 : Value), HS w1 w' (w.heap.size + 1 + 1) g R lost v rs Ds ∧ w.heap.size + 1 + 1 ≤ w'.heap.size ∧ Sat (msL rs) put c ∧ Near (msL rs) c d ∧ rs.length + tk + lost = put ∧ Boxed w' bt 2 (.int .i64 c) ∧ Kp g v bt ∧ a.defers = Ds.map mkD ∧ a.tmps = HRow2 R d (some ⟨ba, oa, none⟩) B N K M K2 w.heap.size g (fun i => a.tmps.toList.getD i undef) (.int .i64 (put : Nat)) (.int .i64 (tk : Nat)) (.int .i64 (lost : Nat)) (.int .i64 (c : Nat)) (.pointer (some ⟨bt, 0, none⟩)) (.int .i64 (q : Nat)) p98 p124) ?rest ?first
                case first =>
                  intro _ _ _ _
                  cases pk
                  case false =>
                    gi_wp2
                    all_goals (refine Met.intro ?_; first | gi_step | go_step)
                    exact ⟨tk, v, rs, _, _, S, hwr, hsat, hnear, hsum, hbt, hkt, rfl, rfl⟩
                  case true =>
                    obtain ⟨bp, op, pv, rfl, hcM, hbp, hcp⟩ := hpk rfl
                    have qp := (S.base.cell (p := ⟨bp, op + c, none⟩) (by show bp < _; omega)).trans hcp
                    have hi5 : (0 : Int) ≤ c ∧ (c : Int) < (M : Int) := by omega
                    have HTK := Lib.hid (takeg_any pv S.fl hwr)
                    have HSB := Lib.hid (pick_sub pv (msL rs))
                    by_cases hz : 0 < (msL rs).length
                    case' pos =>
                      obtain ⟨he, hpl⟩ := pick_some (pick := pv) hz
                    case' neg =>
                      obtain ⟨he, hpl⟩ := pick_none (pick := pv) (L := msL rs) (by omega)
                    all_goals
                      rw [he] at HTK
                      simp only [GivesM, mlA] at HTK
                      have hlr := msL_len rs
                      rw [hlr] at hz
                      try rw [hlr] at hpl
                      clear he
                      generalize (pickM pv (msL rs)).1 = lp at *
                      gi_wp2_with fail
                      refine ⟨trivial, ?_⟩
                      gi_at_call 13
                      refine (callsIn_wide.2 HTK.out).mono ?_
                      rintro e w3 ⟨⟨A1, c1, rfl, _, _, _, _⟩, v3, rs3, hg3, hms3, _⟩
                      have S3 := Lib.hid (S.goes hg3 hwr)
                      have hbt3 : Boxed w3 bt 2 (.int .i64 c) := hg3.2.1.blk hbt hkt
                      have hkt3 := hg3.kp hbt.lt hkt
                      have hw3 : w.heap.size + 1 + 1 ≤ w3.heap.size := Nat.le_trans hwr hg3.2.1.2.2.2.1
                      have hl3 := msL_len rs3
                      have hsb : (msL rs3).Sublist (msL rs) := by rw [hms3]; exact HSB.out
                      rw [← hms3, hl3] at hpl
                      have HSP := Lib.hid (And.intro (hsat.sub hsb) (hnear.sub hsb))
                      have bb : Below w3.heap.size w3 (w3.alloc (.cells #[.int .i64 lp.link, .int .i64 lp.frm, .int .i64 lp.dst, .int .u32 lp.src, .slice A1 lp.bs.length c1, .int .i64 lp.sent] 33)) := balloc (Below.refl _ _) _
                      have HS4 := Lib.hid (And.intro (S3.out.below bb hw3) (And.intro (Nat.le_trans hw3 bb.size) (boxed_below hbt3 bb hbt3.lt)))
                      clear qp HTK S hg3 hbt hkt hsat hnear hms3 hsb S3 bb
                      gi_wp2_with (first | (refine ⟨trivial, ?_⟩; gi_at_call 10; refine (callsIn_wide.2 (num19_any _ _)).mono ?_; rintro e w' ⟨rfl, rfl⟩))
                      all_goals (refine Met.intro ?_; first | gi_step | go_step)
                      first
                      | exact ⟨tk + 1, v3, rs3, _, _, HS4.out.1, HS4.out.2.1, HSP.out.1, HSP.out.2, by omega, HS4.out.2.2, hkt3, by first | rfl | trivial, by first | rfl | trivial⟩
                      | exact ⟨tk, v3, rs3, _, _, HS4.out.1, HS4.out.2.1, HSP.out.1, HSP.out.2, by omega, HS4.out.2.2, hkt3, by first | rfl | trivial, by first | rfl | trivial⟩
                case rest =>
                  rintro ⟨T, D⟩ w' ⟨tk, v, rs, p98, p124, S, hwr, hsat, hnear, hsum, hbt, hkt, hds, hT⟩
                  simp only at hds hT
                  subst hds
                  generalize (fun i => T.toList.getD i undef) = u at hT
                  subst hT
                  unfold HRow2
                  dsimp only
                  have hfn : ∀ (lb : Array Value) (w : World), (binOp .eql 39 (.func (.func 39) #[] lb) .nilFunc).run Try.prog w = .ok (.bool false) w := fun _ _ => rfl
                  have HAL := Lib.hid (all_any S.fl)
                  gi_wp2_with fail
                  refine ⟨trivial, ?_⟩
                  gi_at_call 14
                  refine (callsIn_wide.2 HAL.out).mono ?_
                  rintro e w5 ⟨lb, rfl, hA5, b5⟩
                  have hI5 := Lib.hid (hA5.fr (r := fun _ => True) (q := (· < w5.heap.size)) Fr.refl (fun _ _ _ => trivial) (fun b _ hl => hl))
                  have S5 := S.below b5 hwr
                  have hbt5 := boxed_below hbt b5 hbt.lt
                  have hw5 := Nat.le_trans hwr b5.size
                  clear S hbt hwr hA5 b5 HAL
                  gi_wp2_with fail
                  have bn0 := Boxed.new w5 3 (.int .i64 0)
                  have bl0 : Below w5.heap.size w5 (w5.alloc (.cells #[.int .i64 0] 3)) := balloc (Below.refl _ _) _
                  have Sn := S5.below bl0 hw5
                  have hbn := boxed_below hbt5 bl0 hbt5.lt
                  have hbtn5 : bt < w5.heap.size := hbt5.lt
                  have hsn : (w5.alloc (.cells #[.int .i64 0] 3)).heap.size = w5.heap.size + 1 := by simp
                  obtain ⟨Bn, hBn⟩ : ∃ Bn, Bn = w5.heap.size := ⟨_, rfl⟩
                  simp only [← hBn] at bn0 hsn bl0 hbtn5 ⊢
                  generalize hWn : w5.alloc (.cells #[.int .i64 0] 3) = Wn at *
                  have Y := Lib.hid (And.intro Sn (And.intro hbn (And.intro bn0 bl0)))
                  have HNR := Lib.hid hnear
                  have HST := Lib.hid hsat
                  have HBN := Lib.hid hBn
                  have hBn1 : Bn ≤ w5.heap.size := Nat.le_of_eq hBn
                  have hBn2 : w5.heap.size ≤ Bn := Nat.le_of_eq hBn.symm
                  have hsn1 : Wn.heap.size ≤ Bn + 1 := Nat.le_of_eq hsn
                  have hsn2 : Bn + 1 ≤ Wn.heap.size := Nat.le_of_eq hsn.symm
                  clear hWn Sn hbn bn0 bl0 hbt5 hnear hsat hBn hsn
                  refine range_ownE rfl (by omega) (gf := 39) (lb := lb) rfl trivial (enters_of Try.func39 (by kernel_rfl) rfl)
                    (all_stops 5 (by omega) w5.heap.size rs lb w5 (Wn.heap.size + 2) hI5.out (Nat.le_refl _)) (fun h1 h2 => h1.trans h2) (fun W o h => below_putObj W _ o (by omega)) (HBN.out ▸ Y.out.2.2.2) (fun _ => rfl)
                    (RL Wn Bn (msL rs)) (fun _ _ _ => False) (RL.stable (by omega)) (fun c s W W' h _ => h) ⟨Y.out.2.2.1, Below.refl _ _⟩ (fun W W' hs hb => hb.mono (by omega))
                    (AxM Bn w5.heap.size rs ?a10) (fun pre x a' W W' h hl hk => h.put hl hk) ?assign ?body ?done ?stop
                  case assign =>
                    rintro lp pre x W K hI ⟨e1, e2, e3, e4, e5, e6⟩ hsz hK
                    have E1 := Lib.hid e1
                    have E2 := Lib.hid e2
                    clear e1 e2
                    simp only [alE, mlA]
                    gi_wp2
                    obtain ⟨Bx, hBx⟩ : ∃ Bx, W.heap.size = Bx := ⟨_, rfl⟩
                    have bX := Blk.new W 33 (mlA x.2)
                    have bb := balloc (Below.refl W.heap.size W) (.cells (mlA x.2) 33)
                    have e3' : RdP (W.alloc (.cells (mlA x.2) 33)) (fun _ => True) x.2.A (x.2.m.bs.map b8) := ((e3.below bb).more bb.size).to (fun _ _ _ => trivial)
                    rw [hBx] at bX ⊢
                    have hK' := hK (?a10 x Bx) _ bb ⟨Bx, by omega, bX, rfl, E1.out, E2.out, e3', e5, e6⟩
                    exact hK'
                  case body =>
                    rintro lp pre x a' W ⟨hn, hbW⟩ ⟨Bx, hBx, bX, rfl, e1, e2, e3, e5, e6⟩ hlt
                    try dsimp only
                    obtain ⟨xi, ⟨xm, xA, xc⟩⟩ := x
                    simp only at e1 e2 e3 e5 e6 bX
                    subst e1
                    have hmem : (msL rs)[pre.length]? = some xm := by rw [msL_get?]; exact e2
                    have hq := last_lt HST.out hmem
                    have hst := HST.out.st xm (List.mem_of_getElem? hmem)
                    have hnr := HNR.out xm (List.mem_of_getElem? hmem)
                    have hls := last_succ hmem
                    have k5 := (boxed_below X.out.1 (Y.out.1.base.trans (hbW.mono (by omega))) (by omega)).cell
                    have kt := (boxed_below Y.out.2.1 hbW hbtn5).cell
                    have kn := hn.cell
                    have kf := hn.frozen
                    have x0 := bX.cell 0
                    have x5 := bX.cell 5
                    simp only [mlA, List.getElem?_toArray, List.getElem?_cons_zero, List.getElem?_cons_succ] at x0 x5
                    have hd1 : decide (d < (c : Int) - xm.sent) = false := decide_eq_false (by omega)
                    generalize hlk : lastK (msL rs) pre.length = lk at *
                    have hd2 : decide (xm.link ≤ lk) = false := decide_eq_false (by omega)
                    have hIn := hn.set (.int .i64 xm.link)
                    have hB2 : Below Bn Wn (W.setCell ⟨Bn, 0, none⟩ (.int .i64 xm.link)) := hbW.setCell (p := ⟨Bn, 0, none⟩) (Nat.le_refl _) _
                    have KF : KeepsFrom Wn.heap.size W (W.setCell ⟨Bn, 0, none⟩ (.int .i64 xm.link)) := (KeepsOthers.setCell _ _ _).from _
                    have KB : Below w5.heap.size W (W.setCell ⟨Bn, 0, none⟩ (.int .i64 xm.link)) := (Below.refl _ _).setCell (p := ⟨Bn, 0, none⟩) hBn2 _
                    have FI := Lib.hid (And.intro hIn (And.intro hB2 (And.intro KF KB)))
                    have HLS := Lib.hid hls
                    clear hIn hB2 KF KB hls hq e2 e3 e5 e6
                    gi_wp2
                    refine ⟨FI.out.2.2.1, FI.out.2.2.2, ?_, FI.out.2.1⟩
                    rw [List.length_append, List.length_singleton, HLS.out]
                    exact FI.out.1
                  case stop =>
                    intro D0 cc pre Wm hD0 hpre hx hK0
                    exact hx.elim
                  case done =>
                    rintro D0 ys Wm hD0 hys ⟨hn, hbW⟩ hK0
                    have bm : Below w5.heap.size w5 Wm := (Y.out.2.2.2.trans hbW).mono hBn2
                    have Sm := S5.mark bm hw5 (by omega) hK0
                    have hlen := Sm.fl.len
                    have hwm : w.heap.size + 1 + 1 ≤ Wm.heap.size := Nat.le_trans hw5 bm.size
                    have HSM := Lib.hid Sm
                    have HLN := Lib.hid (len_any Sm.fl)
                    have HLO := Lib.hid (lost_any Sm.fl)
                    have t1 : (((rs.length : Int) + (tk : Int) + (lost : Int) != (put : Int)) : Bool) = false := by rw [bne_eq_false_iff_eq]; omega
                    have t2 : decide ((R : Int) < (rs.length : Int)) = false := decide_eq_false (by omega)
                    have t2' : decide (R < rs.length) = false := decide_eq_false (by omega)
                    have hb1 : (rs.length : Int) ≤ 20 ∧ (tk : Int) ≤ 1000 ∧ (lost : Int) ≤ 1000 := by omega
                    have HSL := Lib.hid hsum
                    clear Sm hys hn hbW hsum hbtn5
                    generalize hrn : rs.length = rn at *
                    have HRN := Lib.hid hrn
                    clear hrn
                    gi_wp2_with (first
                      | (refine ⟨trivial, ?_⟩; gi_at_call 15; refine (callsIn_wide.2 HLN.out).mono ?_; rintro e w' ⟨rfl, rfl⟩)
                      | (refine ⟨trivial, ?_⟩; gi_at_call 16; refine (callsIn_wide.2 HLO.out).mono ?_; rintro e w' ⟨rfl, rfl⟩))
                    refine ⟨⟨_, _, _, _, ⟨c + 1, put, tk, lost, v, rs, D0 :: Ds, by omega, rfl, rfl, rfl, by go_num, rfl, HSM.out, hwm, HST.out.later (by omega), by rw [HRN.out]; exact HSL.out, by omega⟩, rfl⟩, ?_⟩
                    simp [intOf]
                    omega

end Go.Proofs.Ytgdkobknjgbdbaa
