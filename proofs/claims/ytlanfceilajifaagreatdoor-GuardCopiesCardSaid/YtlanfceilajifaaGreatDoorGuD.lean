/- guard: the document's tally, by value. -/
import Derived.Test.YtlanfceilajifaaGreatDoorGu3
import Derived.Test.YtlanfceilajifaaGreatDoorRow16
namespace Go.Proofs.YtlanfceilajifaaGreatDoor
set_option linter.unusedVariables false
set_option linter.unusedSimpArgs false
open Go.RowKit
set_option maxRecDepth 100000
/-- a tally's cells, as the document has them -/
def tF (F : Nat → Int) : Array Value := ((List.range 16).map fun i => Value.int .i64 (F i)).toArray
def zT : List Int := [0, 0, 0, 0, 0, 0, 0, 0, 0, 0, 0, 0, 0, 0, 0]
def ftal (L : List Int) (i : Nat) : Int := if i < 9 then L.getD i 0 else if i = 9 then 0 else L.getD (i - 1) 0
def updI (F : Nat → Int) (j : Nat) (v : Int) (i : Nat) : Int := if i = j then v else F i
theorem tF_size (F : Nat → Int) : (tF F).size = 16 := by simp [tF]
theorem tF_get (F : Nat → Int) (j : Nat) (hj : j < 16) : (tF F)[j]? = some (.int .i64 (F j)) := by
  simp [tF, hj]
theorem tF_set (F : Nat → Int) (j : Nat) (v : Int) : (tF F).setIfInBounds j (.int .i64 v) = tF (updI F j v) := by
  unfold tF
  rw [List.setIfInBounds_toArray]
  congr 1
  apply List.ext_getElem?
  intro i
  rw [List.getElem?_set]
  simp only [List.length_map, List.length_range, List.getElem?_map]
  by_cases hij : j = i
  · subst hij
    by_cases h : j < 16
    · simp [h, updI]
    · simp [h]
  · by_cases h : i < 16
    · simp [hij, h, updI, Ne.symm hij]
    · simp [hij, h]
theorem tF_ok (F : Nat → Int) : okRow 16 (tF F) = true := by
  unfold okRow
  rw [tF_size, Bool.and_eq_true]
  refine ⟨rfl, Array.all_eq_true_iff_forall_mem.2 fun x hx => ?_⟩
  simp only [tF, List.mem_toArray, List.mem_map] at hx
  obtain ⟨i, _, rfl⟩ := hx
  rfl
theorem tF_zero : (#[.int .i64 0, .int .i64 0, .int .i64 0, .int .i64 0, .int .i64 0, .int .i64 0, .int .i64 0, .int .i64 0, .int .i64 0, .int .i64 0, .int .i64 0, .int .i64 0, .int .i64 0, .int .i64 0, .int .i64 0, .int .i64 0] : Array Value) = tF (ftal zT) := by
  rfl
theorem ftal_err {L : List Int} (hl : L.length = 15) {k : Nat} (hk : k < 9) (v : Int) : updI (ftal L) k v = ftal (L.set k v) := by
  funext i
  unfold updI ftal
  by_cases hi : i = k
  · subst hi
    rw [if_pos rfl, if_pos hk]
    simp [List.getD, List.getElem?_set, hl, show i < 15 by omega]
  · rw [if_neg hi]
    split
    · simp [List.getD, List.getElem?_set, Ne.symm hi]
    · split
      · rfl
      · have : ¬ k = i - 1 := by omega
        simp [List.getD, List.getElem?_set, this]
theorem ftal_rea {L : List Int} (hl : L.length = 15) {r : Nat} (hr : 1 ≤ r ∧ r ≤ 6) (v : Int) : updI (ftal L) (9 + r) v = ftal (L.set (8 + r) v) := by
  funext i
  unfold updI ftal
  by_cases hi : i = 9 + r
  · subst hi
    rw [if_pos rfl, if_neg (by omega), if_neg (by omega), show 9 + r - 1 = 8 + r by omega]
    simp [List.getD, List.getElem?_set, hl, show 8 + r < 15 by omega]
  · rw [if_neg hi]
    split
    · have : ¬ 8 + r = i := by omega
      simp [List.getD, List.getElem?_set, this]
    · split
      · rfl
      · have : ¬ 8 + r = i - 1 := by omega
        simp [List.getD, List.getElem?_set, this]

/-- a load, a store of a tally as a whole -/
def ld16 (a : Addr) : Sem Value := loadVar 68 a
def st16 (a : Addr) (v : Value) : Sem Unit := storeVar 68 a v
theorem loadVar_T (a : Addr) : loadVar 68 a = ld16 a := rfl
theorem storeVar_T (a : Addr) (v : Value) : storeVar 68 a v = st16 a v := rfl
theorem run_ld16 (w : World) (b : Nat) (h : rowOk w b 0 16 = true) : (ld16 ⟨b, 0, none⟩).run Tryz.prog w = .ok (.agg (rowOf w b 0 16)) w :=
  run_ldrow 68 _ b 0 16 Tryz.underlying68 rfl (by kernel_rfl) h
theorem run_st16 (w : World) (b : Nat) (cs : Array Value) (h : rowIs w b 16 = true) (hc : okRow 16 cs = true) : (st16 ⟨b, 0, none⟩ (.agg cs)).run Tryz.prog w = .ok () (w.setRow b cs) :=
  run_strow 68 b 16 cs (by kernel_rfl) h hc
theorem ld16_at {w : World} {b : Nat} {cs : Array Value} (h : rowOk w b 0 16 = true) (hc : rowOf w b 0 16 = cs) : (loadVar 68 ⟨b, 0, none⟩).run Tryz.prog w = .ok (.agg cs) w := by
  subst hc
  exact run_ld16 w b h
attribute [local go_sem ↓] loadVar_T storeVar_T
attribute [local go_sem] run_ld16 run_st16 tF_ok tF_size

/-- where an error is counted, as a number -/
def atE (e : Int) : Int := match ixE e with | some k => (k : Int) | none => -1
theorem errors_any (w : World) : Calls Tryz.prog 62 #[] w fun e w' => e = .returned (.slice (some ⟨w.heap.size, 0, none⟩) 9 9) ∧ w' = w.alloc (.cells #[.int .i64 4, .int .i64 150, .int .i64 151, .int .i64 152, .int .i64 153, .int .i64 154, .int .i64 190, .int .i64 191, .int .i64 192] 3) := by
  go_enter Tryz.func62, Tryz.ntmps62
  go_wp2_with fail
  go_ret
  exact ⟨rfl, rfl⟩
set_option maxHeartbeats 2000000 in
theorem at_any (e : Int) (w : World) : Calls Tryz.prog 67 #[.int .i64 e] w fun e' w' => e' = .returned (.int .i64 (atE e)) ∧ Below w.heap.size w w' := by
  have B1 : Below w.heap.size w (w.alloc (.cells #[.int .i64 4, .int .i64 150, .int .i64 151, .int .i64 152, .int .i64 153, .int .i64 154, .int .i64 190, .int .i64 191, .int .i64 192] 3)) := balloc (Below.refl _ _) _
  have yl := Blk.new w 3 #[.int .i64 4, .int .i64 150, .int .i64 151, .int .i64 152, .int .i64 153, .int .i64 154, .int .i64 190, .int .i64 191, .int .i64 192]
  have hce : ∀ k v, errL16[k]? = some v → (w.alloc (.cells #[.int .i64 4, .int .i64 150, .int .i64 151, .int .i64 152, .int .i64 153, .int .i64 154, .int .i64 190, .int .i64 191, .int .i64 192] 3)).cell? ⟨w.heap.size, k, none⟩ = some (.int .i64 v) := fun k v hk => by
    have h9 : k < 9 := (List.getElem?_eq_some_iff.1 hk).1
    rw [yl.cell k]
    rcases (by omega : k = 0 ∨ k = 1 ∨ k = 2 ∨ k = 3 ∨ k = 4 ∨ k = 5 ∨ k = 6 ∨ k = 7 ∨ k = 8) with rfl | rfl | rfl | rfl | rfl | rfl | rfl | rfl | rfl
    all_goals
      obtain rfl := Option.some.inj hk
      rfl
  generalize hw1 : w.alloc (.cells #[.int .i64 4, .int .i64 150, .int .i64 151, .int .i64 152, .int .i64 153, .int .i64 154, .int .i64 190, .int .i64 191, .int .i64 192] 3) = w1 at *
  have HW1 := Lib.hid hw1
  have HB := Lib.hid B1
  have HCE := Lib.hid hce
  clear hw1 B1 yl hce
  go_enter Tryz.func67, Tryz.ntmps67
  go_wp2_with fail
  refine (errors_any w).mono ?_
  rintro e' w2 ⟨rfl, rfl⟩
  rw [HW1.out]
  go_wp2_with fail
  go_loopw [4] (fun i wr => ∃ c : Nat, c ≤ 9 ∧ i = .int .i64 c ∧ w1 = wr ∧ Hid (∀ k, k < c → errL16[k]? ≠ some e)) (fun i _ => 9 - (intOf i).toNat)
  case atStart => exact ⟨0, by omega, rfl, rfl, Lib.hid (fun k hk => absurd hk (by omega))⟩
  case round =>
    obtain ⟨c, hc, rfl, rfl, hsm⟩ := hrel
    by_cases hlt : c < 9
    case neg =>
      obtain rfl : c = 9 := by omega
      go_wp2_with fail
      go_ret
      have ha : atE e = -1 := by unfold atE; rw [ixE_none hsm.out]
      exact ⟨by rw [ha]; rfl, HB.out⟩
    case pos =>
      have d0 : decide ((c : Int) < 9) = true := by simp; omega
      have hwk : IntKind.i64.wrap ((c : Int) + 1) = (c : Int) + 1 := IntWalk.i64_in _ ⟨by omega, by omega⟩
      obtain ⟨v, hv⟩ : ∃ v, errL16[c]? = some v := ⟨_, List.getElem?_eq_getElem hlt⟩
      have hcc := HCE.out c v hv
      have HV := Lib.hid hv
      have hin : (c : Int) < 9 := by omega
      have hin0 : (0 : Int) ≤ (c : Int) := by omega
      clear hv
      by_cases hve : v = e
      · subst hve
        have d1 : (v == v) = true := by simp
        go_wp2_with fail
        go_ret
        have ha : atE v = c := by unfold atE; rw [ixE_some HV.out hsm.out]
        exact ⟨by rw [ha]; rfl, HB.out⟩
      · have d1 : (v == e) = false := by simpa using hve
        have HN := Lib.hid hve
        clear hve
        go_wp2_with fail
        go_roundw
        case rel =>
          refine ⟨c + 1, by omega, by go_num, by trivial, Lib.hid (fun k hk => ?_)⟩
          rcases (by omega : k < c ∨ k = c) with h | rfl
          · exact hsm.out k h
          · rw [HV.out]; intro q; cases q; exact HN.out rfl
        case measure => simp [intOf]; omega
theorem sum_any (a n : Int) (w : World) (ha : 0 ≤ a ∧ a ≤ 2147483647) (hn : 0 ≤ n ∧ n ≤ 9223372036854775807) : Calls Tryz.prog 96 #[.int .i64 a, .int .i64 n] w fun e w' => e = .returned (.int .i64 (sumF a n)) ∧ w = w' := by
  have hw1 : IntKind.i64.wrap (2147483647 - a) = 2147483647 - a := IntWalk.i64_in _ ⟨by omega, by omega⟩
  by_cases hgt : 2147483647 - a < n
  · have d1 : decide (2147483647 - a < n) = true := by simpa using hgt
    have E1 := Lib.hid (show sumF a n = 2147483647 from if_pos hgt)
    clear hgt
    go_enter Tryz.func96, Tryz.ntmps96
    go_wp2_with fail
    go_ret
    exact ⟨by rw [E1.out]; rfl, rfl⟩
  · have d1 : decide (2147483647 - a < n) = false := by simpa using hgt
    have hw2 : IntKind.i64.wrap (a + n) = a + n := IntWalk.i64_in _ ⟨by omega, by omega⟩
    have E1 := Lib.hid (show sumF a n = a + n from if_neg hgt)
    clear hgt
    go_enter Tryz.func96, Tryz.ntmps96
    go_wp2_with fail
    go_ret
    exact ⟨by rw [E1.out]; rfl, rfl⟩

set_option maxHeartbeats 1000000 in
theorem refrefuse_none (F : Nat → Int) (e : Int) (h : ixE e = none) (w : World) : Calls Tryz.prog 60 #[.agg (tF F), .int .i64 e] w fun e' w' => e' = .returned (.tuple #[.agg (tF F), .int .i64 2]) ∧ Below w.heap.size w w' := by
  have yb := (Blk.new w 68 (tF F)).alloc (.cells (tF (ftal zT)) 68)
  have yr := Blk.new (w.alloc (.cells (tF F) 68)) 68 (tF (ftal zT))
  rw [World.size_alloc] at yr
  have HA := Lib.hid (at_any e)
  rw [show atE e = -1 by unfold atE; rw [h]] at HA
  clear h
  have HZ := Lib.hid tF_zero
  have B0 : Below w.heap.size w ((w.alloc (.cells (tF F) 68)).alloc (.cells (tF (ftal zT)) 68)) := balloc (balloc (Below.refl _ _) _) _
  have Y := Lib.hid (And.intro yb (And.intro yr B0))
  clear yb yr B0
  go_enter Tryz.func60, Tryz.ntmps60
  go_wp2_with fail
  rw [HZ.out]
  refine (HA.out _).mono ?_
  rintro e' w1 ⟨rfl, b1⟩
  obtain ⟨yb, yr, BB⟩ := Y.out
  replace yb := yb.below b1 yb.lt
  replace yr := yr.below b1 yr.lt
  replace BB := bnext BB b1
  obtain ⟨i0, i1, i2⟩ := yb.row (tF_size F)
  obtain ⟨j0, j1, j2⟩ := yr.row (tF_size _)
  have zr := yr.setRow (tF F)
  obtain ⟨k0, k1, k2⟩ := zr.row (tF_size F)
  have ZB := Lib.hid (below_setRow16 (b := w.heap.size + 1) BB (by omega) (tF F))
  clear b1 Y yb yr BB zr
  go_wp2_with fail
  refine bodyPost_ret (v := .tuple #[.agg (tF F), .int .i64 2]) (results_ct (p := 4) (q := 5) rfl _ _ _ _ _ rfl (ld16_at k1 k2) rfl) rfl ?_
  exact ⟨rfl, ZB.out⟩

set_option maxHeartbeats 2000000 in
theorem refrefuse_some (F : Nat → Int) (e : Int) (k : Nat) (h : ixE e = some k) (hb : 0 ≤ F k ∧ F k ≤ 2147483647) (w : World) : Calls Tryz.prog 60 #[.agg (tF F), .int .i64 e] w fun e' w' => e' = .returned (.tuple #[.agg (tF (updI F k (sumF (F k) 1))), .int .i64 0]) ∧ Below w.heap.size w w' := by
  have yb := (Blk.new w 68 (tF F)).alloc (.cells (tF (ftal zT)) 68)
  have yr := Blk.new (w.alloc (.cells (tF F) 68)) 68 (tF (ftal zT))
  rw [World.size_alloc] at yr
  have HZ := Lib.hid tF_zero
  have B0 : Below w.heap.size w ((w.alloc (.cells (tF F) 68)).alloc (.cells (tF (ftal zT)) 68)) := balloc (balloc (Below.refl _ _) _) _
  have Y := Lib.hid (And.intro yb (And.intro yr B0))
  clear yb yr B0
  have HA := Lib.hid (at_any e)
  have hk := ixE_lt h
  rw [show atE e = (k : Int) by unfold atE; rw [h]] at HA
  clear h
  have d1 : decide ((k : Int) < 0) = false := by simp
  have i1 : (0 : Int) ≤ (k : Int) := by omega
  have i2 : (k : Int) < 9 := by omega
  go_enter Tryz.func60, Tryz.ntmps60
  go_upto_region 1 with fail
  rw [HZ.out]
  go_wp2_with fail
  refine (HA.out _).mono ?_
  rintro e' w1 ⟨rfl, b1⟩
  obtain ⟨yb, yr, BB⟩ := Y.out
  replace yb := yb.below b1 yb.lt
  replace yr := yr.below b1 yr.lt
  replace BB := bnext BB b1
  clear b1 Y
  have ck := yb.cell k
  rw [tF_get F k (by omega)] at ck
  have fk := yb.frozen k
  have HS := Lib.hid (fun W => sum_any (F k) 1 W hb (by omega))
  have y3 := yb.set k (.int .i64 (sumF (F k) 1))
  rw [tF_set] at y3
  have yr3 := yr.far (p := ⟨w.heap.size, k, none⟩) (by show ¬ w.heap.size + 1 = w.heap.size; omega) (.int .i64 (sumF (F k) 1))
  have B3 := BB.setCell (p := ⟨w.heap.size, k, none⟩) (Nat.le_refl _) (.int .i64 (sumF (F k) 1))
  have Q3 := Lib.hid (And.intro y3 (And.intro yr3 B3))
  clear yb yr BB y3 yr3 B3
  go_upto_region 5 with (refine (HS.out _).mono ?_; rintro e' w2 ⟨rfl, rfl⟩)
  generalize w1.setCell ⟨w.heap.size, k, none⟩ (.int .i64 (sumF (F k) 1)) = w3 at *
  clear ck fk
  obtain ⟨yb, yr, BB⟩ := Q3.out
  generalize hG : updI F k (sumF (F k) 1) = G at *
  have HG := Lib.hid hG
  clear hG
  obtain ⟨i0, i1, i2⟩ := yb.row (tF_size _)
  obtain ⟨j0, j1, j2⟩ := yr.row (tF_size _)
  have zr := yr.setRow (tF G)
  obtain ⟨k0, k1, k2⟩ := zr.row (tF_size _)
  have ZB := Lib.hid (below_setRow16 (b := w.heap.size + 1) BB (by omega) (tF G))
  clear yb yr BB zr
  go_wp2_with fail
  refine bodyPost_ret (v := .tuple #[.agg (tF G), .int .i64 0]) (results_ct (p := 4) (q := 5) rfl _ _ _ _ _ rfl (ld16_at k1 k2) rfl) rfl ?_
  exact ⟨by rw [HG.out], ZB.out⟩

theorem refrefused_none (F : Nat → Int) (e : Int) (h : ixE e = none) (w : World) : Calls Tryz.prog 63 #[.agg (tF F), .int .i64 e] w fun e' w' => e' = .returned (.int .i64 0) ∧ Below w.heap.size w w' := by
  have B0 : Below w.heap.size w (w.alloc (.cells (tF F) 68)) := balloc (Below.refl _ _) _
  have HB := Lib.hid B0
  have HA := Lib.hid (at_any e)
  rw [show atE e = -1 by unfold atE; rw [h]] at HA
  clear h B0
  go_enter Tryz.func63, Tryz.ntmps63
  go_wp2_with fail
  refine (HA.out _).mono ?_
  rintro e' w1 ⟨rfl, b1⟩
  have QB := Lib.hid (bnext HB.out b1)
  clear b1
  go_wp2_with fail
  go_ret
  exact ⟨rfl, QB.out⟩
theorem refrefused_some (F : Nat → Int) (e : Int) (k : Nat) (h : ixE e = some k) (w : World) : Calls Tryz.prog 63 #[.agg (tF F), .int .i64 e] w fun e' w' => e' = .returned (.int .i64 (F k)) ∧ Below w.heap.size w w' := by
  have B0 : Below w.heap.size w (w.alloc (.cells (tF F) 68)) := balloc (Below.refl _ _) _
  have yb := Blk.new w 68 (tF F)
  have HB := Lib.hid (And.intro B0 yb)
  have HA := Lib.hid (at_any e)
  have hk := ixE_lt h
  rw [show atE e = (k : Int) by unfold atE; rw [h]] at HA
  clear h B0 yb
  have d1 : decide ((0 : Int) ≤ (k : Int)) = true := by simp
  have i1 : (0 : Int) ≤ (k : Int) := by omega
  have i2 : (k : Int) < 9 := by omega
  go_enter Tryz.func63, Tryz.ntmps63
  go_wp2_with fail
  refine (HA.out _).mono ?_
  rintro e' w1 ⟨rfl, b1⟩
  have QB := Lib.hid (bnext HB.out.1 b1)
  have ck := (HB.out.2.below b1 HB.out.2.lt).cell k
  rw [tF_get F k (by omega)] at ck
  clear b1
  go_wp2_with fail
  go_ret
  exact ⟨rfl, QB.out⟩

set_option maxHeartbeats 2000000 in
theorem refleave_bad (F : Nat → Int) (r m : Int) (h : ¬ (1 ≤ r ∧ r ≤ 6 ∧ 0 ≤ m)) (w : World) : Calls Tryz.prog 61 #[.agg (tF F), .int .i64 r, .int .i64 m] w fun e' w' => e' = .returned (.tuple #[.agg (tF F), .int .i64 2]) ∧ Below w.heap.size w w' := by
  have yb := (Blk.new w 68 (tF F)).alloc (.cells (tF (ftal zT)) 68)
  have yr := Blk.new (w.alloc (.cells (tF F) 68)) 68 (tF (ftal zT))
  rw [World.size_alloc] at yr
  have HZ := Lib.hid tF_zero
  have B0 : Below w.heap.size w ((w.alloc (.cells (tF F) 68)).alloc (.cells (tF (ftal zT)) 68)) := balloc (balloc (Below.refl _ _) _) _
  have Y := Lib.hid (And.intro yb (And.intro yr B0))
  clear yb yr B0
  by_cases h1 : r < 1
  case' pos => have d1 : decide (r < 1) = true := by simpa using h1
  case' neg =>
    have d1 : decide (r < 1) = false := by simpa using h1
    by_cases h2 : 6 < r
    case' pos => have d2 : decide (6 < r) = true := by simpa using h2
    case' neg =>
      have d2 : decide (6 < r) = false := by simpa using h2
      have d3 : decide (m < 0) = true := by simp; omega
  all_goals
    go_enter Tryz.func61, Tryz.ntmps61
    go_upto_region 1 with fail
    rw [HZ.out]
    obtain ⟨yb, yr, BB⟩ := Y.out
    clear Y
    obtain ⟨i0, i1, i2⟩ := yb.row (tF_size _)
    obtain ⟨j0, j1, j2⟩ := yr.row (tF_size _)
    have zr := yr.setRow (tF F)
    obtain ⟨k0, k1, k2⟩ := zr.row (tF_size _)
    have ZB := Lib.hid (below_setRow16 (b := w.heap.size + 1) BB (by omega) (tF F))
    clear yb yr BB zr
    go_wp2_with fail
    refine bodyPost_ret (v := .tuple #[.agg (tF F), .int .i64 2]) (results_ct (p := 6) (q := 7) rfl _ _ _ _ _ rfl (ld16_at k1 k2) rfl) rfl ?_
    exact ⟨rfl, ZB.out⟩

set_option maxHeartbeats 2000000 in
theorem refleave_ok (F : Nat → Int) (r : Nat) (m : Int) (hr : 1 ≤ r ∧ r ≤ 6) (hm : 0 ≤ m ∧ m ≤ 9223372036854775807) (hb : 0 ≤ F (9 + r) ∧ F (9 + r) ≤ 2147483647) (w : World) : Calls Tryz.prog 61 #[.agg (tF F), .int .i64 r, .int .i64 m] w fun e' w' => e' = .returned (.tuple #[.agg (tF (updI F (9 + r) (sumF (F (9 + r)) m))), .int .i64 0]) ∧ Below w.heap.size w w' := by
  have yb := (Blk.new w 68 (tF F)).alloc (.cells (tF (ftal zT)) 68)
  have yr := Blk.new (w.alloc (.cells (tF F) 68)) 68 (tF (ftal zT))
  rw [World.size_alloc] at yr
  have HZ := Lib.hid tF_zero
  have B0 : Below w.heap.size w ((w.alloc (.cells (tF F) 68)).alloc (.cells (tF (ftal zT)) 68)) := balloc (balloc (Below.refl _ _) _) _
  have Y := Lib.hid (And.intro yb (And.intro yr B0))
  clear yb yr B0
  have d1 : decide ((r : Int) < 1) = false := by simp; omega
  have d2 : decide (6 < (r : Int)) = false := by simp; omega
  have d3 : decide (m < 0) = false := by simp; omega
  have i1 : (0 : Int) ≤ (r : Int) := by omega
  have i2 : (r : Int) < 7 := by omega
  go_enter Tryz.func61, Tryz.ntmps61
  go_upto_region 1 with fail
  rw [HZ.out]
  obtain ⟨yb, yr, BB⟩ := Y.out
  clear Y
  generalize (w.alloc (.cells (tF F) 68)).alloc (.cells (tF (ftal zT)) 68) = w1 at *
  have ck := yb.cell (9 + r)
  rw [tF_get F (9 + r) (by omega)] at ck
  have fk := yb.frozen (9 + r)
  have HS := Lib.hid (fun W => sum_any (F (9 + r)) m W hb (by omega))
  have y3 := yb.set (9 + r) (.int .i64 (sumF (F (9 + r)) m))
  rw [tF_set] at y3
  have yr3 := yr.far (p := ⟨w.heap.size, 9 + r, none⟩) (by show ¬ w.heap.size + 1 = w.heap.size; omega) (.int .i64 (sumF (F (9 + r)) m))
  have B3 := BB.setCell (p := ⟨w.heap.size, 9 + r, none⟩) (Nat.le_refl _) (.int .i64 (sumF (F (9 + r)) m))
  have Q3 := Lib.hid (And.intro y3 (And.intro yr3 B3))
  clear yb yr BB y3 yr3 B3
  go_upto_region 4 with (refine (HS.out _).mono ?_; rintro e' w2 ⟨rfl, rfl⟩)
  generalize w1.setCell ⟨w.heap.size, 9 + r, none⟩ (.int .i64 (sumF (F (9 + r)) m)) = w3 at *
  clear ck fk
  obtain ⟨yb, yr, BB⟩ := Q3.out
  generalize hG : updI F (9 + r) (sumF (F (9 + r)) m) = G at *
  have HG := Lib.hid hG
  clear hG
  obtain ⟨i0, i1, i2⟩ := yb.row (tF_size _)
  obtain ⟨j0, j1, j2⟩ := yr.row (tF_size _)
  have zr := yr.setRow (tF G)
  obtain ⟨k0, k1, k2⟩ := zr.row (tF_size _)
  have ZB := Lib.hid (below_setRow16 (b := w.heap.size + 1) BB (by omega) (tF G))
  clear yb yr BB zr
  go_wp2_with fail
  refine bodyPost_ret (v := .tuple #[.agg (tF G), .int .i64 0]) (results_ct (p := 6) (q := 7) rfl _ _ _ _ _ rfl (ld16_at k1 k2) rfl) rfl ?_
  exact ⟨by rw [HG.out], ZB.out⟩

theorem refleft_bad (F : Nat → Int) (r : Int) (h : ¬ (1 ≤ r ∧ r ≤ 6)) (w : World) : Calls Tryz.prog 64 #[.agg (tF F), .int .i64 r] w fun e' w' => e' = .returned (.int .i64 0) ∧ Below w.heap.size w w' := by
  have B0 : Below w.heap.size w (w.alloc (.cells (tF F) 68)) := balloc (Below.refl _ _) _
  have HB := Lib.hid B0
  clear B0
  by_cases h1 : r < 1
  case' pos => have d1 : decide (r < 1) = true := by simpa using h1
  case' neg =>
    have d1 : decide (r < 1) = false := by simpa using h1
    have d2 : decide (6 < r) = true := by simp; omega
  all_goals
    go_enter Tryz.func64, Tryz.ntmps64
    go_wp2_with fail
    go_ret
    exact ⟨rfl, HB.out⟩
theorem refleft_ok (F : Nat → Int) (r : Nat) (hr : 1 ≤ r ∧ r ≤ 6) (w : World) : Calls Tryz.prog 64 #[.agg (tF F), .int .i64 r] w fun e' w' => e' = .returned (.int .i64 (F (9 + r))) ∧ Below w.heap.size w w' := by
  have B0 : Below w.heap.size w (w.alloc (.cells (tF F) 68)) := balloc (Below.refl _ _) _
  have ck := (Blk.new w 68 (tF F)).cell (9 + r)
  rw [tF_get F (9 + r) (by omega)] at ck
  have HB := Lib.hid B0
  clear B0
  have d1 : decide ((r : Int) < 1) = false := by simp; omega
  have d2 : decide (6 < (r : Int)) = false := by simp; omega
  have i1 : (0 : Int) ≤ (r : Int) := by omega
  have i2 : (r : Int) < 7 := by omega
  go_enter Tryz.func64, Tryz.ntmps64
  go_wp2_with fail
  go_ret
  exact ⟨rfl, HB.out⟩
end Go.Proofs.YtlanfceilajifaaGreatDoor
