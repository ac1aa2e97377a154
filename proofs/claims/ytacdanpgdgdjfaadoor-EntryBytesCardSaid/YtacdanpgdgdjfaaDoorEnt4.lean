/- entry: Name, All; the references of Of and Prefix. -/
import Derived.Test.YtacdanpgdgdjfaaDoorEnt3
namespace Go.Proofs.YtacdanpgdgdjfaaDoor
set_option linter.unusedVariables false
set_option linter.unusedSimpArgs false
open Go.RowKit
set_option maxRecDepth 100000

theorem all_any (w : World) : Calls Tryd.prog 17 #[] w fun e w' => e = .returned (.agg #[.int .i64 0, .int .i64 0, .int .u32 0, .int .u32 0, .int .u32 0, .int .u32 16]) ∧ Below w.heap.size w w' := by
  go_enter Tryd.func17, Tryd.ntmps17
  go_wp2
  go_returns
  exact ⟨rfl, by go_grown⟩
theorem refAll_any (w : World) : Calls Tryd.prog 18 #[] w fun e w' => e = .returned (.agg #[.int .i64 0, .int .i64 0, .int .u32 0, .int .u32 0, .int .u32 0, .int .u32 16]) ∧ Below w.heap.size w w' := by
  go_enter Tryd.func18, Tryd.ntmps18
  go_wp2
  go_returns
  exact ⟨rfl, by go_grown⟩
theorem given_any (w : World) : Calls Tryd.prog 31 #[] w fun e w' => e = .returned (.agg #[.int .i64 2, .int .i64 0, .int .u32 167837696, .int .u32 4294901760, .int .u32 0, .int .u32 3]) ∧ Below w.heap.size w w' := by
  go_enter Tryd.func31, Tryd.ntmps31
  go_wp2
  go_returns
  exact ⟨rfl, by go_grown⟩

/-- a reason's name -/
def nameF (r : Int) : ByteArray :=
  if r = 0 then ⟨#[102, 105, 110, 101]⟩ else if r = 1 then ⟨#[102, 97, 109, 105, 108, 121]⟩ else if r = 2 then ⟨#[109, 97, 115, 107]⟩ else if r = 3 then ⟨#[98, 105, 116, 115]⟩ else if r = 4 then ⟨#[107, 105, 110, 100]⟩ else if r = 5 then ⟨#[110, 101, 120, 116]⟩ else if r = 6 then ⟨#[109, 101, 116, 114, 105, 99]⟩ else ⟨#[]⟩

set_option maxHeartbeats 1000000 in
theorem name_any (r : Int) (w : World) : Calls Tryd.prog 13 #[.int .i64 r] w fun e w' => e = .returned (.string (nameF r)) ∧ Below w.heap.size w w' := by
  have hta : ∀ (w : World) (v : Value), (Instr.typeAssert (.iface 9 v) 20 9 false).run Tryd.prog w = .ok v w := fun _ _ => by kernel_rfl
  rcases (by omega : r < 0 ∨ 6 < r ∨ r = 0 ∨ r = 1 ∨ r = 2 ∨ r = 3 ∨ r = 4 ∨ r = 5 ∨ r = 6) with h | h | rfl | rfl | rfl | rfl | rfl | rfl | rfl
  · have hn : nameF r = ⟨#[]⟩ := by unfold nameF; repeat rw [if_neg (by omega)]
    rw [hn]
    clear hn
    go_enter Tryd.func13, Tryd.ntmps13
    go_wp2
    go_ret
    exact ⟨rfl, by go_grown⟩
  · have hn : nameF r = ⟨#[]⟩ := by unfold nameF; repeat rw [if_neg (by omega)]
    rw [hn]
    clear hn
    go_enter Tryd.func13, Tryd.ntmps13
    go_wp2
    go_ret
    exact ⟨rfl, by go_grown⟩
  all_goals
    go_enter Tryd.func13, Tryd.ntmps13
    go_wp2
    go_ret
    exact ⟨rfl, by go_grown⟩

set_option maxHeartbeats 1000000 in
theorem refPrefix_any (f t : Int) (a m x k : Nat) (w : World) (ha : a < 4294967296) (hm : m < 4294967296) (hx : x < 4294967296) (hk : k < 4294967296) :
    Calls Tryd.prog 9 #[.agg #[.int .i64 f, .int .i64 t, .int .u32 a, .int .u32 m, .int .u32 x, .int .u32 k]] w fun e w' =>
      e = .returned (.tuple #[.agg #[.int .u32 (prefF f a m x k).1.1, .int .i64 (prefF f a m x k).1.2], .int .i64 (prefF f a m x k).2]) ∧ Below w.heap.size w w' := by
  have hW := fun W => refWhy_any f t a m x k W ha hm hx hk
  have hL := fun W => refLen_any m W hm
  have HP := Lib.hid (show prefF f a m x k = if whyF f a m x k = 0 then ((a, (lenF m).1), 0) else ((0, 0), 140) from rfl)
  generalize whyF f a m x k = q at *
  generalize lenF m = lf at *
  generalize prefF f a m x k = pf at *
  obtain ⟨l1, l2⟩ := lf
  have CW := Lib.hid hW
  have CL := Lib.hid hL
  clear hW hL
  by_cases hq : q = 0
  · subst hq
    have HP2 : Hid (pf = ((a, l1), 0)) := Lib.hid (by rw [HP.out, if_pos rfl])
    clear HP
    go_enter Tryd.func9, Tryd.ntmps9
    go_wp2_with fail
    refine (CW.out _).mono ?_
    rintro e w1 ⟨rfl, hb⟩
    have c3 := keepc (W := (w.alloc (.cells #[.int .i64 f, .int .i64 t, .int .u32 a, .int .u32 m, .int .u32 x, .int .u32 k] 25)).alloc (.cells #[.int .u32 0, .int .i64 0] 28)) (p := ⟨w.heap.size, 3, none⟩) (v := .int .u32 m) (by simp) hb
    have c2 := keepc (W := (w.alloc (.cells #[.int .i64 f, .int .i64 t, .int .u32 a, .int .u32 m, .int .u32 x, .int .u32 k] 25)).alloc (.cells #[.int .u32 0, .int .i64 0] 28)) (p := ⟨w.heap.size, 2, none⟩) (v := .int .u32 a) (by simp) hb
    have hB := Blk.new (w.alloc (.cells #[.int .i64 f, .int .i64 t, .int .u32 a, .int .u32 m, .int .u32 x, .int .u32 k] 25)) 28 #[.int .u32 0, .int .i64 0]
    have hB1 := hB.below hb (by simp)
    simp only [World.size_alloc] at hB1
    have d0 := hB1.cell 0
    have d1 := hB1.cell 1
    have f0 := hB1.frozen 0
    have f1 := hB1.frozen 1
    simp at d0 d1
    have hb2 := bnext (balloc (balloc (Below.refl _ w) (.cells #[.int .i64 f, .int .i64 t, .int .u32 a, .int .u32 m, .int .u32 x, .int .u32 k] 25)) (.cells #[.int .u32 0, .int .i64 0] 28)) hb
    clear hb hB hB1
    go_wp2_with (go_at_call 27; refine (CL.out _).mono ?_; rintro e w' ⟨rfl, rfl⟩)
    refine bodyPost_ret (v := .tuple #[.agg #[.int .u32 a, .int .i64 l1], .int .i64 0]) (by simp [results, Tryd.results9, go_sem, d0, d1]) rfl ?_
    rw [HP2.out]
    exact ⟨rfl, by go_grown⟩
  · have HP2 : Hid (pf = ((0, 0), 140)) := Lib.hid (by rw [HP.out, if_neg hq])
    have hd : ((q : Int) != 0) = true := by simp; omega
    clear HP hq
    go_enter Tryd.func9, Tryd.ntmps9
    go_wp2_with fail
    refine (CW.out _).mono ?_
    rintro e w1 ⟨rfl, hb⟩
    have hB := Blk.new (w.alloc (.cells #[.int .i64 f, .int .i64 t, .int .u32 a, .int .u32 m, .int .u32 x, .int .u32 k] 25)) 28 #[.int .u32 0, .int .i64 0]
    have hB1 := hB.below hb (by simp)
    simp only [World.size_alloc] at hB1
    have d0 := hB1.cell 0
    have d1 := hB1.cell 1
    have f0 := hB1.frozen 0
    have f1 := hB1.frozen 1
    simp at d0 d1
    have hb2 := bnext (balloc (balloc (Below.refl _ w) (.cells #[.int .i64 f, .int .i64 t, .int .u32 a, .int .u32 m, .int .u32 x, .int .u32 k] 25)) (.cells #[.int .u32 0, .int .i64 0] 28)) hb
    clear hb hB hB1
    go_wp2_with fail
    refine bodyPost_ret (v := .tuple #[.agg #[.int .u32 0, .int .i64 0], .int .i64 140]) (by simp [results, Tryd.results9, go_sem, d0, d1]) rfl ?_
    rw [HP2.out]
    exact ⟨rfl, by go_grown⟩

set_option maxHeartbeats 1000000 in
theorem refGood_any (a : Nat) (n : Int) (w : World) (ha : a < 4294967296) :
    Calls Tryd.prog 34 #[.agg #[.int .u32 a, .int .i64 n]] w fun e w' => e = .returned (.bool (okP (a, n) && !kindBad a (maskF n.toNat))) ∧ Below w.heap.size w w' := by
  have hR := fun W => refRight_any a n W ha
  have hp : okP (a, n) = true → 0 ≤ n ∧ n ≤ 32 := fun h => by
    have := of_decide_eq_true h
    exact ⟨this.1, this.2.1⟩
  have hB := fun W => refBad_any a (maskF n.toNat) W ha (maskF_lt _)
  have hE := Blk.new w 28 #[.int .u32 a, .int .i64 n]
  have hM : 0 ≤ n → n ≤ 32 → ∀ W, Calls Tryd.prog 48 #[.int .i64 n] W fun e w' => e = .returned (.int .u32 (maskF n.toNat)) ∧ W = w' := fun h1 h2 W => refMask_any n W h1 h2
  generalize okP (a, n) = ok at *
  generalize kindBad a (maskF n.toNat) = kb at *
  generalize maskF n.toNat = mk at *
  have e0 : ∀ v : Sub (w.alloc (.cells #[.int .u32 a, .int .i64 n] 28)), v.1.cell? ⟨w.heap.size, 0, none⟩ = some (.int .u32 a) := fun v => (hE.below v.2 (by simp)).cell 0
  have e1 : ∀ v : Sub (w.alloc (.cells #[.int .u32 a, .int .i64 n] 28)), v.1.cell? ⟨w.heap.size, 1, none⟩ = some (.int .i64 n) := fun v => (hE.below v.2 (by simp)).cell 1
  have hne : Nonempty (Sub (w.alloc (.cells #[.int .u32 a, .int .i64 n] 28))) := ⟨⟨_, Below.refl _ _⟩⟩
  have HR := Lib.hid hR
  have HB := Lib.hid hB
  have HM := Lib.hid hM
  have HP := Lib.hid hp
  clear hR hB hM hp hE
  cases ok
  · go_enter Tryd.func34, Tryd.ntmps34
    go_wp2_with fail
    refine region_sub (by kernel_rfl) (by kernel_rfl) ?_
    repeat (first
      | go_big_quiet_step ((go_at_call 29; exact sub_below (HR.out _)))
      | quiet_step ((go_at_call 29; exact sub_below (HR.out _))))
    refine wpQuiet_nil ?_
    rintro _ ⟨v, rfl⟩
    go_wp2_with fail
    go_ret
    exact ⟨rfl, bnext (balloc (Below.refl _ _) _) v.2⟩
  · obtain ⟨hn0, hn1⟩ := HP.out rfl
    have HM2 := Lib.hid (HM.out hn0 hn1)
    go_enter Tryd.func34, Tryd.ntmps34
    go_wp2_with fail
    refine region_sub (by kernel_rfl) (by kernel_rfl) ?_
    repeat (first
      | go_big_quiet_step ((first | (go_at_call 29; exact sub_below (HR.out _)) | (go_at_call 48; exact sub_same (HM2.out _)) | (go_at_call 30; exact sub_below (HB.out _))))
      | quiet_step ((first | (go_at_call 29; exact sub_below (HR.out _)) | (go_at_call 48; exact sub_same (HM2.out _)) | (go_at_call 30; exact sub_below (HB.out _)))))
    refine wpQuiet_nil ?_
    rintro _ ⟨v, rfl⟩
    go_wp2_with fail
    go_ret
    exact ⟨ret_bool (by simp), bnext (balloc (Below.refl _ _) _) v.2⟩

set_option maxHeartbeats 1000000 in
theorem refOne_any (a n me : Nat) (w : World) (ha : a < 4294967296) (hn : n ≤ 32) (hm : me < 4294967296) :
    Calls Tryd.prog 35 #[.agg #[.int .u32 a, .int .i64 n], .int .i64 me] w fun e w' => e = .returned (.agg #[.int .i64 2, .int .i64 0, .int .u32 a, .int .u32 (maskF n), .int .u32 0, .int .u32 me]) ∧ Below w.heap.size w w' := by
  have hM : ∀ W, Calls Tryd.prog 48 #[.int .i64 n] W fun e w' => e = .returned (.int .u32 (maskF n)) ∧ W = w' := fun W => by
    have := refMask_any n W (by omega) (by omega)
    rwa [Int.toNat_natCast] at this
  have hwm : IntKind.u32.wrap (me : Int) = me := IntWalk.u32_in _ ⟨by omega, by omega⟩
  have HM := Lib.hid hM
  clear hM
  generalize maskF n = mk at *
  have hP := (Blk.new w 28 #[.int .u32 a, .int .i64 n]).alloc (.cells #[.int .i64 0, .int .i64 0, .int .u32 0, .int .u32 0, .int .u32 0, .int .u32 0] 25)
  have e0 := hP.cell 0
  have e1 := hP.cell 1
  simp only [List.getElem?_toArray, List.getElem?_cons_zero, List.getElem?_cons_succ] at e0 e1
  go_enter Tryd.func35, Tryd.ntmps35
  go_wp2_with fail
  go_region_held3 (fun w' => w'.cell? ⟨w.heap.size, 0, none⟩ = some (.int .u32 a) ∧ w'.cell? ⟨w.heap.size, 1, none⟩ = some (.int .i64 n)) (first | exact ⟨e0, e1⟩ | go_keep)
    (first | (go_at_call 48; refine (HM.out _).mono ?_; rintro e w' ⟨rfl, rfl⟩))
  go_wp2
  go_returns
  exact ⟨rfl, by go_grown⟩

set_option maxHeartbeats 2000000 in
theorem refOf_any (a : Nat) (n me : Int) (w : World) (ha : a < 4294967296) (hme : me ≤ 9223372036854775807) :
    Calls Tryd.prog 16 #[.agg #[.int .u32 a, .int .i64 n], .int .i64 me] w fun e w' => e = .returned (ofV a n me) ∧ Below w.heap.size w w' := by
  have hG := fun W => refGood_any a n W ha
  have hEb := fun (W : World) => Blk.new (W.alloc (.cells #[.int .u32 a, .int .i64 n] 28)) 25 #[.int .i64 0, .int .i64 0, .int .u32 0, .int .u32 0, .int .u32 0, .int .u32 0]
  have hV : ofV a n me = if okOf a n me then .tuple #[.agg #[.int .i64 2, .int .i64 0, .int .u32 a, .int .u32 (maskF n.toNat), .int .u32 0, .int .u32 me], .int .i64 0] else .tuple #[.agg #[.int .i64 0, .int .i64 0, .int .u32 0, .int .u32 0, .int .u32 0, .int .u32 0], .int .i64 2] := rfl
  have hO : okOf a n me = ((okP (a, n) && !kindBad a (maskF n.toNat)) && decide (1 ≤ me ∧ me ≤ 16)) := by
    unfold okOf
    cases okP (a, n) <;> cases kindBad a (maskF n.toNat) <;> cases decide (1 ≤ me ∧ me ≤ 16) <;> rfl
  have hp : (okP (a, n) && !kindBad a (maskF n.toNat)) = true → 0 ≤ n ∧ n ≤ 32 := fun h => by
    simp only [Bool.and_eq_true] at h
    have := of_decide_eq_true h.1
    exact ⟨this.1, this.2.1⟩
  generalize (okP (a, n) && !kindBad a (maskF n.toNat)) = gd at *
  by_cases hbad : gd = false ∨ me < 1 ∨ 16 < me
  · have hno : okOf a n me = false := by
      rw [hO]
      rcases hbad with h | h | h
      · simp [h]
      · have : decide (1 ≤ me ∧ me ≤ 16) = false := decide_eq_false (by omega)
        simp [this]
      · have : decide (1 ≤ me ∧ me ≤ 16) = false := decide_eq_false (by omega)
        simp [this]
    rw [hno] at hV
    simp only [Bool.false_eq_true, if_false] at hV
    have HV := Lib.hid hV
    have HC := Lib.hid hG
    have HB := Lib.hid hEb
    clear hG hV hno hEb hO hp
    cases gd
    case' false => have hx : True := trivial
    case' true => rcases (by simpa using hbad : me < 1 ∨ 16 < me) with hx | hx
    all_goals
      clear hbad
      go_enter Tryd.func16, Tryd.ntmps16
      go_wp2_with fail
      refine (HC.out _).mono ?_
      rintro e w1 ⟨rfl, hb⟩
      have hB1 := (HB.out w).below hb (by simp)
      simp only [World.size_alloc] at hB1
      have d0 := hB1.cell 0
      have d1 := hB1.cell 1
      have d2 := hB1.cell 2
      have d3 := hB1.cell 3
      have d4 := hB1.cell 4
      have d5 := hB1.cell 5
      have f0 := hB1.frozen 0
      have f1 := hB1.frozen 1
      have f2 := hB1.frozen 2
      have f3 := hB1.frozen 3
      have f4 := hB1.frozen 4
      have f5 := hB1.frozen 5
      simp at d0 d1 d2 d3 d4 d5
      have hb2 := bnext (balloc (balloc (Below.refl _ w) (.cells #[.int .u32 a, .int .i64 n] 28)) (.cells #[.int .i64 0, .int .i64 0, .int .u32 0, .int .u32 0, .int .u32 0, .int .u32 0] 25)) hb
      clear hb hB1
      go_wp2_with fail
      refine bodyPost_ret (v := .tuple #[.agg #[.int .i64 0, .int .i64 0, .int .u32 0, .int .u32 0, .int .u32 0, .int .u32 0], .int .i64 2]) (by simp [results, Tryd.results16, go_sem, d0, d1, d2, d3, d4, d5]) rfl ?_
      rw [HV.out]
      exact ⟨rfl, by go_grown⟩
  · have hgd : gd = true := by cases gd <;> simp_all
    have hm1 : 1 ≤ me := by omega
    have hm2 : me ≤ 16 := by omega
    clear hbad
    obtain ⟨hn0, hn1⟩ := hp hgd
    obtain ⟨n, rfl⟩ := Int.eq_ofNat_of_zero_le hn0
    obtain ⟨me, rfl⟩ := Int.eq_ofNat_of_zero_le (show 0 ≤ me by omega)
    subst hgd
    have hoo : okOf a (n : Int) (me : Int) = true := by
      rw [hO, decide_eq_true ⟨hm1, hm2⟩]; rfl
    have hM := fun W => refOne_any a n me W ha (by omega) (by omega)
    rw [Int.toNat_natCast] at hV
    rw [hoo] at hV
    simp only [if_true] at hV
    generalize maskF n = mk at *
    have HC := Lib.hid hG
    have HB := Lib.hid hEb
    have HV := Lib.hid hV
    have HM := Lib.hid hM
    clear hG hEb hV hM hoo hO hp
    go_enter Tryd.func16, Tryd.ntmps16
    go_wp2_with fail
    refine (HC.out _).mono ?_
    rintro e w1 ⟨rfl, hb⟩
    have hB1 := (HB.out w).below hb (by simp)
    simp only [World.size_alloc] at hB1
    have p0 := keepc (W := (w.alloc (.cells #[.int .u32 a, .int .i64 n] 28)).alloc (.cells #[.int .i64 0, .int .i64 0, .int .u32 0, .int .u32 0, .int .u32 0, .int .u32 0] 25)) (p := ⟨w.heap.size, 0, none⟩) (v := .int .u32 a) (by simp) hb
    have p1 := keepc (W := (w.alloc (.cells #[.int .u32 a, .int .i64 n] 28)).alloc (.cells #[.int .i64 0, .int .i64 0, .int .u32 0, .int .u32 0, .int .u32 0, .int .u32 0] 25)) (p := ⟨w.heap.size, 1, none⟩) (v := .int .i64 n) (by simp) hb
    have hb2 := bnext (balloc (balloc (Below.refl _ w) (.cells #[.int .u32 a, .int .i64 n] 28)) (.cells #[.int .i64 0, .int .i64 0, .int .u32 0, .int .u32 0, .int .u32 0, .int .u32 0] 25)) hb
    clear hb
    go_wp2_with fail
    refine (HM.out _).mono ?_
    rintro e w2 ⟨rfl, hb3⟩
    have hD2 := hB1.below hb3 hB1.lt
    have d0 := hD2.cell 0
    have d1 := hD2.cell 1
    have d2 := hD2.cell 2
    have d3 := hD2.cell 3
    have d4 := hD2.cell 4
    have d5 := hD2.cell 5
    have f0 := hD2.frozen 0
    have f1 := hD2.frozen 1
    have f2 := hD2.frozen 2
    have f3 := hD2.frozen 3
    have f4 := hD2.frozen 4
    have f5 := hD2.frozen 5
    simp at d0 d1 d2 d3 d4 d5
    have hb4 := bnext hb2 hb3
    clear hb3 hb2 hD2 hB1
    go_wp2_with fail
    refine bodyPost_ret (v := .tuple #[.agg #[.int .i64 2, .int .i64 0, .int .u32 a, .int .u32 mk, .int .u32 0, .int .u32 me], .int .i64 0]) (by simp [results, Tryd.results16, go_sem, d0, d1, d2, d3, d4, d5]) rfl ?_
    rw [HV.out]
    exact ⟨rfl, by go_grown⟩
end Go.Proofs.YtacdanpgdgdjfaaDoor
