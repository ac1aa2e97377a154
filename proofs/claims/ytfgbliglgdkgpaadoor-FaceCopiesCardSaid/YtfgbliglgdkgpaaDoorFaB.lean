/- face: Same; the document's Same, Own, To, From, Set. -/
import Derived.Test.YtfgbliglgdkgpaaDoorFaA
namespace Go.Proofs.YtfgbliglgdkgpaaDoor
set_option linter.unusedVariables false
set_option linter.unusedSimpArgs false
open Go.RowKit
set_option maxRecDepth 100000
theorem eq_fc (a n d a' n' d' : Int) (u u' : Bool) (w : World) : (binOp .eql 35 (.agg #[.int .u32 a, .int .i64 n, .int .u32 d, .bool u]) (.agg #[.int .u32 a', .int .i64 n', .int .u32 d', .bool u'])).run Tryd.prog w = .ok (.bool (a == a' && n == n' && d == d' && u == u')) w := by
  have h1 : Tryd.prog.underlying 35 = some (.struct (Tryd.prog.fieldsOf 35)) := by simp [Program.fieldsOf, Tryd.underlying35]
  have h2 := run_equalIn_struct (P := Tryd.prog) w 9999 35 #[.int .u32 a, .int .i64 n, .int .u32 d, .bool u] #[.int .u32 a', .int .i64 n', .int .u32 d', .bool u'] h1 (by kernel_rfl)
  simp only [binOp]
  simp only [Op.equal, Op.maxDepth, Sem.run_bind, h2]
  by_cases e1 : a = a' <;> simp [go_sem, e1]
  by_cases e2 : n = n' <;> simp [go_sem, e2]
  by_cases e3 : d = d' <;> simp [go_sem, e3]
  by_cases e4 : u = u' <;> simp [go_sem, e4]
theorem ne_fc (a n d a' n' d' : Int) (u u' : Bool) (w : World) : (binOp .neq 35 (.agg #[.int .u32 a, .int .i64 n, .int .u32 d, .bool u]) (.agg #[.int .u32 a', .int .i64 n', .int .u32 d', .bool u'])).run Tryd.prog w = .ok (.bool (!(a == a' && n == n' && d == d' && u == u'))) w := by
  have h1 : Tryd.prog.underlying 35 = some (.struct (Tryd.prog.fieldsOf 35)) := by simp [Program.fieldsOf, Tryd.underlying35]
  have h2 := run_equalIn_struct (P := Tryd.prog) w 9999 35 #[.int .u32 a, .int .i64 n, .int .u32 d, .bool u] #[.int .u32 a', .int .i64 n', .int .u32 d', .bool u'] h1 (by kernel_rfl)
  simp only [binOp]
  simp only [Op.equal, Op.maxDepth, Sem.run_bind, h2]
  by_cases e1 : a = a' <;> simp [go_sem, e1]
  by_cases e2 : n = n' <;> simp [go_sem, e2]
  by_cases e3 : d = d' <;> simp [go_sem, e3]
  by_cases e4 : u = u' <;> simp [go_sem, e4]
theorem own_form {w : World} {base e size n : Nat} {v : Value} {xs : List Value} (h : w.ownsRow base e size v n xs) (hn : 1 ≤ n) : ∃ g cap, v = .slice (some ⟨g, 0, none⟩) n cap ∧ base ≤ g := by
  rcases h.2 with ⟨_, h0⟩ | ⟨g, cap, cur, rfl, hg, _⟩
  · omega
  · exact ⟨g, cap, rfl, hg⟩
theorem fcC_up {l : List Fc} {k : Nat} {x : Fc} (hx : l[k]? = some x) : (fcC l)[k * 4 + 3]? = some (.bool x.up) := by
  have := rows_get fcL_len l k x 3 hx (by omega)
  exact this
theorem fc_beq (x y : Fc) : ((x.na : Int) == (y.na : Int) && x.nl == y.nl && (x.ad : Int) == (y.ad : Int) && x.up == y.up) = decide (x = y) := by
  obtain ⟨a, n, d, u⟩ := x
  obtain ⟨a', n', d', u'⟩ := y
  simp only [Fc.mk.injEq]
  by_cases h : a = a' ∧ n = n' ∧ d = d' ∧ u = u'
  · rw [decide_eq_true h]
    obtain ⟨rfl, rfl, rfl, rfl⟩ := h
    simp
  · rw [decide_eq_false h, Bool.eq_false_iff]
    intro hc
    simp at hc
    exact h ⟨by omega, hc.1.1.2, by omega, hc.2⟩

set_option maxHeartbeats 1000000 in
theorem lequal_any (l l' : List Fc) (n n' c c' B B' : Nat) (hn : l.length = n) (hn' : l'.length = n') (A A' : Option Addr) (w : World) (hr : Rd w B A (fcC l)) (hr' : Rd w B' A' (fcC l')) (hc : n ≤ 9223372036854775807) :
    Calls Tryd.prog 54 #[.slice A n c, .slice A' n' c'] w fun e w' => e = .returned (.bool (decide (l = l'))) ∧ ∃ m, w' = w.drewN m := by
  by_cases hnn : n = n'
  · subst hnn
    have HN := Lib.hid hn
    have HN' := Lib.hid hn'
    have HR := Lib.hid hr
    have HR' := Lib.hid hr'
    have g0 : ((n : Int) != (n : Int)) = false := by simp
    clear hn hn' hr hr'
    go_enter Tryd.func54, Tryd.ntmps54
    go_wp2
    go_loopw [13] (fun i wr => ∃ j : Nat, j ≤ n ∧ i = .int .i64 j ∧ (∃ m, wr = w.drewN m) ∧ l.take j = l'.take j) (fun i _ => n - (intOf i).toNat)
    case atStart => exact ⟨0, Nat.zero_le _, rfl, ⟨0, rfl⟩, by simp⟩
    case round =>
      obtain ⟨j, hj, rfl, ⟨m, rfl⟩, heq⟩ := hrel
      have HEQ := Lib.hid heq
      clear heq
      by_cases hlt : j < n
      · obtain ⟨x, hx⟩ : ∃ x, l[j]? = some x := ⟨l[j]'(by rw [HN.out]; exact hlt), List.getElem?_eq_getElem _⟩
        obtain ⟨y, hy⟩ : ∃ y, l'[j]? = some y := ⟨l'[j]'(by rw [HN'.out]; exact hlt), List.getElem?_eq_getElem _⟩
        obtain ⟨b, off, rfl, _, q0, q1, q2, q3⟩ := fc_at HR.out hx
        obtain ⟨b', off', rfl, _, r0, r1, r2, r3⟩ := fc_at HR'.out hy
        have HX := Lib.hid hx
        have HY := Lib.hid hy
        have hne := ne_fc x.na x.nl x.ad y.na y.nl y.ad x.up y.up
        rw [fc_beq] at hne
        have hi1 : (j : Int) < (n : Int) := by omega
        have hi0 : (0 : Int) ≤ (j : Int) := by omega
        clear hx hy
        cases hd : decide (x = y)
        · rw [hd] at hne
          have HF := Lib.hid (show decide (l = l') = false from decide_eq_false (fun h => by
            have := HX.out
            rw [h, HY.out] at this
            exact (of_decide_eq_false hd) (Option.some.inj this).symm))
          clear hd
          go_wp2
          go_quiet (fail)
          go_wp2
          go_ret
          rw [HF.out]
          exact ⟨rfl, _, World.drewN_drewN ..⟩
        · rw [hd] at hne
          have hxy := of_decide_eq_true hd
          have HS := Lib.hid (show l.take (j + 1) = l'.take (j + 1) by rw [List.take_add_one, List.take_add_one, HEQ.out, HX.out, HY.out, hxy])
          clear hd hxy
          go_wp2
          go_quiet (fail)
          go_wp2
          go_roundw
          case rel => exact ⟨j + 1, by omega, by go_num, ⟨_, rfl⟩, HS.out⟩
          case measure => simp [intOf]; omega
      · obtain rfl : j = n := by omega
        have HT := Lib.hid (show decide (l = l') = true from decide_eq_true (by have := HEQ.out; rwa [List.take_of_length_le (by rw [HN.out]; exact Nat.le_refl _), List.take_of_length_le (by rw [HN'.out]; exact Nat.le_refl _)] at this))
        go_wp2
        go_ret
        rw [HT.out]
        exact ⟨rfl, m, rfl⟩
  · have g0 : ((n : Int) != (n' : Int)) = true := by rw [bne_iff_ne]; omega
    rw [show decide (l = l') = false from decide_eq_false (fun h => hnn (by rw [← hn, ← hn', h]))]
    clear hnn hn hn' hr hr'
    go_enter Tryd.func54, Tryd.ntmps54
    go_wp2
    go_ret
    exact ⟨rfl, 0, rfl⟩

set_option maxHeartbeats 1000000 in
theorem refSame9_any (l l' : List Fc) (n n' c c' B B' : Nat) (hn : l.length = n) (hn' : l'.length = n') (A A' : Option Addr) (w : World) (hr : Rd w B A (fcC l)) (hr' : Rd w B' A' (fcC l')) (hc : n ≤ 9223372036854775807) :
    Calls Tryd.prog 30 #[.slice A n c, .slice A' n' c'] w fun e w' => e = .returned (.bool (decide (l = l'))) ∧ ∃ m, w' = w.drewN m := by
  by_cases hnn : n = n'
  · subst hnn
    have HN := Lib.hid hn
    have HN' := Lib.hid hn'
    have HR := Lib.hid hr
    have HR' := Lib.hid hr'
    have g0 : ((n : Int) != (n : Int)) = false := by simp
    clear hn hn' hr hr'
    go_enter Tryd.func30, Tryd.ntmps30
    go_wp2
    go_loopw [5] (fun i wr => ∃ j : Nat, j ≤ n ∧ i = .int .i64 j ∧ (∃ m, wr = w.drewN m) ∧ l.take j = l'.take j) (fun i _ => n - (intOf i).toNat)
    case atStart => exact ⟨0, Nat.zero_le _, rfl, ⟨0, rfl⟩, by simp⟩
    case round =>
      obtain ⟨j, hj, rfl, ⟨m, rfl⟩, heq⟩ := hrel
      have HEQ := Lib.hid heq
      clear heq
      by_cases hlt : j < n
      · obtain ⟨x, hx⟩ : ∃ x, l[j]? = some x := ⟨l[j]'(by rw [HN.out]; exact hlt), List.getElem?_eq_getElem _⟩
        obtain ⟨y, hy⟩ : ∃ y, l'[j]? = some y := ⟨l'[j]'(by rw [HN'.out]; exact hlt), List.getElem?_eq_getElem _⟩
        obtain ⟨b, off, rfl, _, q0, q1, q2, q3⟩ := fc_at HR.out hx
        obtain ⟨b', off', rfl, _, r0, r1, r2, r3⟩ := fc_at HR'.out hy
        have HX := Lib.hid hx
        have HY := Lib.hid hy
        have hne := ne_fc x.na x.nl x.ad y.na y.nl y.ad x.up y.up
        rw [fc_beq] at hne
        have hi1 : (j : Int) < (n : Int) := by omega
        have hi0 : (0 : Int) ≤ (j : Int) := by omega
        clear hx hy
        cases hd : decide (x = y)
        · rw [hd] at hne
          have HF := Lib.hid (show decide (l = l') = false from decide_eq_false (fun h => by
            have := HX.out
            rw [h, HY.out] at this
            exact (of_decide_eq_false hd) (Option.some.inj this).symm))
          clear hd
          go_wp2
          go_quiet (fail)
          go_wp2
          go_ret
          rw [HF.out]
          exact ⟨rfl, _, World.drewN_drewN ..⟩
        · rw [hd] at hne
          have hxy := of_decide_eq_true hd
          have HS := Lib.hid (show l.take (j + 1) = l'.take (j + 1) by rw [List.take_add_one, List.take_add_one, HEQ.out, HX.out, HY.out, hxy])
          clear hd hxy
          go_wp2
          go_quiet (fail)
          go_wp2
          go_roundw
          case rel => exact ⟨j + 1, by omega, by go_num, ⟨_, rfl⟩, HS.out⟩
          case measure => simp [intOf]; omega
      · obtain rfl : j = n := by omega
        have HT := Lib.hid (show decide (l = l') = true from decide_eq_true (by have := HEQ.out; rwa [List.take_of_length_le (by rw [HN.out]; exact Nat.le_refl _), List.take_of_length_le (by rw [HN'.out]; exact Nat.le_refl _)] at this))
        go_wp2
        go_ret
        rw [HT.out]
        exact ⟨rfl, m, rfl⟩
  · have g0 : ((n : Int) != (n' : Int)) = true := by rw [bne_iff_ne]; omega
    rw [show decide (l = l') = false from decide_eq_false (fun h => hnn (by rw [← hn, ← hn', h]))]
    clear hnn hn hn' hr hr'
    go_enter Tryd.func30, Tryd.ntmps30
    go_wp2
    go_ret
    exact ⟨rfl, 0, rfl⟩

theorem fsame_nilnil (w : World) : Calls Tryd.prog 29 #[.pointer none, .pointer none] w fun e w' => e = .returned (.bool true) ∧ w = w' := by
  go_enter Tryd.func29, Tryd.ntmps29
  go_wp2_with (go_at_call 40; refine (fnone_nil _).mono ?_; rintro e w' ⟨rfl, rfl⟩)
  go_ret
  exact ⟨rfl, rfl⟩
theorem fsame_nil {w : World} {n0 g : Nat} {v : Value} {l : List Fc} (h : Fs w n0 g v l) : Calls Tryd.prog 29 #[.pointer (some ⟨g, 0, none⟩), .pointer none] w fun e w' => e = .returned (.bool false) ∧ w = w' := by
  have HN := Lib.hid (fnone_any h)
  clear h
  go_enter Tryd.func29, Tryd.ntmps29
  go_wp2_with fail
  refine HN.out.mono ?_
  rintro e w' ⟨rfl, rfl⟩
  go_wp2_with fail
  refine (fnone_nil _).mono ?_
  rintro e w' ⟨rfl, rfl⟩
  go_wp2_with fail
  refine HN.out.mono ?_
  rintro e w' ⟨rfl, rfl⟩
  go_wp2_with fail
  go_ret
  exact ⟨rfl, rfl⟩
set_option maxHeartbeats 1000000 in
theorem fsame_any {w : World} {n0 g n1 g1 : Nat} {v v1 : Value} {l l1 : List Fc} (h : Fs w n0 g v l) (h1 : Fs w n1 g1 v1 l1) : Calls Tryd.prog 29 #[.pointer (some ⟨g, 0, none⟩), .pointer (some ⟨g1, 0, none⟩)] w fun e w' => e = .returned (.bool (decide (l = l1))) ∧ Below w.heap.size w w' := by
  have HN := Lib.hid (fnone_any h)
  have HN1 := Lib.hid (fnone_any h1)
  obtain ⟨A, c, rfl, _, _, hr, _⟩ := h.row
  obtain ⟨A1, c1, rfl, _, _, hr1, _⟩ := h1.row
  have HQ := Lib.hid (fun m => lequal_any l l1 l.length l1.length c c1 w.heap.size w.heap.size rfl rfl A A1 (w.drewN m) (hr.drewN m) (hr1.drewN m) (by have := h.len; omega))
  have d0 := h.blk.cell 0
  have gl := h.blk.lt
  have f0 := h1.blk.cell 0
  have gl1 := h1.blk.lt
  simp only [List.getElem?_toArray, List.getElem?_cons_zero] at d0 f0
  clear h h1 hr hr1
  generalize l.length = n at *
  generalize l1.length = n1 at *
  generalize decide (l = l1) = r at *
  go_enter Tryd.func29, Tryd.ntmps29
  go_wp2_with fail
  refine HN.out.mono ?_
  rintro e w' ⟨rfl, rfl⟩
  go_wp2_with fail
  refine HN1.out.mono ?_
  rintro e w' ⟨rfl, rfl⟩
  go_wp2_with fail
  go_quiet ((go_at_call 54; exact q_draws (HQ.out _)))
  go_wp2
  go_ret
  exact ⟨rfl, below_drewN (Below.refl _ _) _⟩

set_option maxHeartbeats 1000000 in
theorem refOwn9_any (l : List Fc) (n c B : Nat) (A : Option Addr) (a : Nat) (w : World) (hn : l.length = n) (hr : Rd w B A (fcC l)) (hc : n ≤ c ∧ c ≤ 9223372036854775807) :
    Calls Tryd.prog 23 #[.slice A n c, .int .u32 a] w fun e w' => e = .returned (.bool (ownB l a)) ∧ Below w.heap.size w w' := by
  have HN := Lib.hid hn
  have HR := Lib.hid hr
  clear hn hr
  go_enter Tryd.func23, Tryd.ntmps23
  go_wp2
  go_loop [5] (fun i => ∃ j : Nat, j ≤ n ∧ i = .int .i64 j ∧ ownB (l.take j) a = false) (fun i => n - (intOf i).toNat)
  case atStart => exact ⟨0, Nat.zero_le _, rfl, by simp [ownB]⟩
  case round =>
    obtain ⟨j, hj, rfl, hno⟩ := hrel
    have HNO := Lib.hid hno
    clear hno
    by_cases hlt : j < n
    · obtain ⟨x, hx⟩ : ∃ x, l[j]? = some x := ⟨l[j]'(by rw [HN.out]; exact hlt), List.getElem?_eq_getElem _⟩
      obtain ⟨b, off, rfl, _, q0, q1, q2, q3⟩ := fc_at HR.out hx
      have HX := Lib.hid hx
      clear hx q0 q1 q3
      by_cases he : x.ad = a
      · have hc : ((x.ad : Int) == (a : Int)) = true := by rw [he]; simp
        have HT := Lib.hid (show ownB l a = true from List.any_eq_true.2 ⟨x, List.mem_of_getElem? HX.out, decide_eq_true he⟩)
        clear he
        go_wp2
        go_ret
        rw [HT.out]
        exact ⟨rfl, Below.refl _ _⟩
      · have hc : ((x.ad : Int) == (a : Int)) = false := by rw [beq_eq_false_iff_ne]; omega
        have HS := Lib.hid (show ownB (l.take (j + 1)) a = false by
          have h := HNO.out
          unfold ownB at h ⊢
          rw [List.take_add_one, HX.out]
          simp [h, he])
        clear he
        go_wp2
        go_round
        case rel => exact ⟨j + 1, by omega, by go_num, HS.out⟩
        case measure => simp [intOf]; omega
    · obtain rfl : j = n := by omega
      have HF := Lib.hid (show ownB l a = false by have := HNO.out; rwa [List.take_of_length_le (by rw [HN.out]; exact Nat.le_refl _)] at this)
      go_wp2
      go_ret
      rw [HF.out]
      exact ⟨rfl, Below.refl _ _⟩

set_option maxHeartbeats 1000000 in
theorem refTo9_any (l : List Fc) (n c B : Nat) (A : Option Addr) (a : Nat) (w : World) (hL : Ls w B A n c l) (hB : B ≤ w.heap.size) (ha : a < 4294967296) :
    Calls Tryd.prog 21 #[.slice A n c, .int .u32 a] w fun e w' => e = .returned (.tuple #[.int .i64 (firstF (toP a) l : Nat), .bool (l.any (toP a))]) ∧ Below w.heap.size w w' := by
  have HL := Lib.hid hL
  have hc := hL.cap
  clear hL
  go_enter Tryd.func21, Tryd.ntmps21
  go_wp2
  go_loopw [6] (fun i wr => ∃ j : Nat, j ≤ n ∧ i = .int .i64 j ∧ Below w.heap.size w wr ∧ (l.take j).any (toP a) = false) (fun i _ => n - (intOf i).toNat)
  case atStart => exact ⟨0, Nat.zero_le _, rfl, Below.refl _ _, by simp⟩
  case round =>
    obtain ⟨j, hj, rfl, hb, hno⟩ := hrel
    have HNO := Lib.hid hno
    clear hno
    by_cases hlt : j < n
    · obtain ⟨x, hx⟩ : ∃ x, l[j]? = some x := ⟨l[j]'(by rw [HL.out.len]; exact hlt), List.getElem?_eq_getElem _⟩
      obtain ⟨b, off, rfl, _, q0, q1, q2, q3⟩ := fc_at (HL.out.rd.below (hb.mono hB)) hx
      have HX := Lib.hid hx
      have hfit := HL.out.fit x (List.mem_of_getElem? hx)
      have HH := Lib.hid (fun W => refHas_any x.na x.nl a W hfit.1 ha)
      have HS := Lib.hid (show toP a x = false → (l.take (j + 1)).any (toP a) = false from fun h => by
        rw [List.take_add_one, HX.out]
        simp [HNO.out, h])
      have HFA := Lib.hid (fun h => first_at (p := toP a) HX.out h HNO.out)
      obtain ⟨na, nl, ad, up⟩ := x
      have hp : toP a ⟨na, nl, ad, up⟩ = (up && hasF (na, nl) a) := rfl
      rw [hp] at HS HFA
      simp only at q0 q1 q2 q3 HH
      clear hx hp hfit
      cases hup : up
      · subst hup
        rw [Bool.false_and] at HS
        go_wp2
        go_roundw
        case rel => exact ⟨j + 1, by omega, by go_num, hb, HS.out rfl⟩
        case measure => simp [intOf]; omega
      · subst hup
        rw [Bool.true_and] at HS HFA
        cases hh : hasF (na, nl) a
        all_goals
          rw [hh] at HH HS HFA
          clear hh
          go_wp2_with fail
          refine (HH.out _).mono ?_
          rintro e w2 ⟨rfl, b2⟩
          go_wp2_with fail
        · go_roundw
          case rel => exact ⟨j + 1, by omega, by go_num, bnext hb b2, HS.out (by first | rfl | trivial)⟩
          case measure => simp [intOf]; omega
        · go_ret2
          rw [(HFA.out (by first | rfl | trivial)).1, (HFA.out (by first | rfl | trivial)).2]
          exact ⟨rfl, bnext hb b2⟩
    · obtain rfl : j = n := by omega
      have HA := Lib.hid (show l.any (toP a) = false by have := HNO.out; rwa [List.take_of_length_le (by rw [HL.out.len]; exact Nat.le_refl _)] at this)
      go_wp2
      go_ret2
      rw [HA.out, show firstF (toP a) l = 0 by unfold firstF; rw [HA.out]; rfl]
      exact ⟨rfl, hb⟩

set_option maxHeartbeats 2000000 in
theorem refFrom9_any (l : List Fc) (n c B : Nat) (A : Option Addr) (i : Int) (a : Nat) (w : World) (hL : Ls w B A n c l) (hB : B ≤ w.heap.size) (ha : a < 4294967296) :
    Calls Tryd.prog 24 #[.slice A n c, .int .i64 i, .int .u32 a] w fun e w' => e = .returned (.int .i64 (fromE l i a)) ∧ Below w.heap.size w w' := by
  have HL := Lib.hid hL
  have hc := hL.cap
  by_cases h0 : i < 0
  · rw [show fromE l i a = 4 by unfold fromE; rw [if_pos (by omega)]]
    have g0 : decide (i < 0) = true := decide_eq_true h0
    clear h0 hL
    go_enter Tryd.func24, Tryd.ntmps24
    go_wp2
    go_ret
    exact ⟨rfl, Below.refl _ _⟩
  have g0 : decide (i < 0) = false := decide_eq_false h0
  by_cases h1 : (n : Int) ≤ i
  · rw [show fromE l i a = 4 by unfold fromE; rw [if_pos (by rw [HL.out.len]; omega)]]
    have g1 : decide ((n : Int) ≤ i) = true := decide_eq_true h1
    clear h0 h1 hL
    go_enter Tryd.func24, Tryd.ntmps24
    go_wp2
    go_ret
    exact ⟨rfl, Below.refl _ _⟩
  have g1 : decide ((n : Int) ≤ i) = false := decide_eq_false h1
  have hi : 0 ≤ i ∧ i < (l.length : Int) := by rw [HL.out.len]; omega
  have hfe : fromE l i a = if (getF l i).up = false then 190 else if ownB l a then 191 else if hasF (getF l i).net a && !endF (getF l i).net a then 0 else 192 := by unfold fromE; rw [if_neg (by simpa using hi)]
  obtain ⟨k, rfl⟩ := Int.eq_ofNat_of_zero_le hi.1
  have hk : k < l.length := by omega
  have hx : l[k]? = some (getF l (k : Int)) := by unfold getF; rw [if_pos hi, Int.toNat_natCast, List.getD, List.getElem?_eq_getElem hk]; rfl
  have hfit := HL.out.fit _ (List.mem_of_getElem? hx)
  obtain ⟨b, off, rfl, _, q0, q1, q2, q3⟩ := fc_at HL.out.rd hx
  have HO := Lib.hid (fun W hW => refOwn9_any l n c B (some ⟨b, off, none⟩) a W HL.out.len (HL.out.rd.below hW) HL.out.cap)
  have hbl := cell_lt q0
  generalize getF l (k : Int) = x at *
  obtain ⟨na, nl, ad, up⟩ := x
  have HI := Lib.hid (fun W => inside_any na nl a W hfit.1 ha)
  have HF := Lib.hid hfe
  simp only at HF q0 q1 q2 q3
  have hk1 : (k : Int) < (n : Int) := by omega
  have hk0 : (0 : Int) ≤ (k : Int) := by omega
  clear hfe hx hfit hk hi h0 h1 hL
  cases hup : up
  · subst hup
    rw [HF.out, if_pos rfl]
    clear HF
    go_enter Tryd.func24, Tryd.ntmps24
    go_wp2
    go_ret
    exact ⟨rfl, Below.refl _ _⟩
  subst hup
  rw [if_neg (by simp)] at HF
  have HOW := Lib.hid (HO.out w (Below.refl _ _))
  cases how : ownB l a
  case true =>
    rw [HF.out, if_pos how]
    rw [how] at HOW
    clear HF how
    go_enter Tryd.func24, Tryd.ntmps24
    go_wp2_with fail
    refine HOW.out.mono ?_
    rintro e w1 ⟨rfl, b1⟩
    go_wp2_with fail
    go_ret
    exact ⟨rfl, b1⟩
  case false =>
    rw [if_neg (by rw [how]; simp)] at HF
    rw [how] at HOW
    clear how
    cases hin : (hasF (na, nl) a && !endF (na, nl) a)
    case' false => rw [show fromE l k a = 192 by rw [HF.out]; exact if_neg (by show ¬ ((hasF (na, nl) a && !endF (na, nl) a) = true); rw [hin]; simp)]
    case' true => rw [show fromE l k a = 0 by rw [HF.out]; exact if_pos hin]
    all_goals
      rw [hin] at HI
      clear HF hin
      go_enter Tryd.func24, Tryd.ntmps24
      go_wp2_with fail
      refine HOW.out.mono ?_
      rintro e w1 ⟨rfl, b1⟩
      have r0 := (b1.cell hbl).trans q0
      have r1 := (b1.cell (p := ⟨b, off + k * 4 + 1, none⟩) hbl).trans q1
      go_wp2_with fail
      refine (HI.out _).mono ?_
      rintro e w2 ⟨rfl, b2⟩
      go_wp2_with fail
      go_ret
      exact ⟨rfl, bnext b1 b2⟩

set_option maxHeartbeats 2000000 in
theorem refSet9_any (l : List Fc) (n c B : Nat) (A : Option Addr) (i : Int) (up : Bool) (w : World) (hL : Ls w B A n c l) (hB : B ≤ w.heap.size) (hn : n ≤ 1000) :
    Calls Tryd.prog 51 #[.slice A n c, .int .i64 i, .bool up] w fun e w' => (∃ A' c', e = .returned (.slice A' n c') ∧ Ls w' w'.heap.size A' n c' (setL l i up) ∧ (∀ a, A' = some a → w.heap.size ≤ a.block)) ∧ Below w.heap.size w w' := by
  obtain ⟨i0, hi0, hz0, hz1, hz2⟩ := info_parts fc_info
  have HL := Lib.hid hL
  have hc := hL.cap
  have hlen := hL.len
  have HRD := Lib.hid (hL.rd.alloc hB (.cells #[] 35))
  have HLEN := Lib.hid hlen
  clear hL
  by_cases hi : 0 ≤ i ∧ i < (n : Int)
  · obtain ⟨k, rfl⟩ := Int.eq_ofNat_of_zero_le hi.1
    have hk : k < l.length := by omega
    have e3 : setL l (k : Int) up = l.set k { l[k] with up := up } := by unfold setL; rw [if_pos (by omega), Int.toNat_natCast, List.getD, List.getElem?_eq_getElem hk]; rfl
    rw [e3]
    have HX := Lib.hid (List.getElem?_eq_getElem hk)
    have HFT := Lib.hid (HL.out.fit l[k] (List.getElem_mem hk))
    have g0 : decide ((0 : Int) ≤ (k : Int)) = true := decide_eq_true hi.1
    have g1 : decide ((k : Int) < (n : Int)) = true := decide_eq_true hi.2
    have g1' : decide (k < n) = true := decide_eq_true (by omega)
    have hk1 : (k : Int) < (n : Int) := hi.2
    have hk0 : (0 : Int) ≤ (k : Int) := hi.1
    have hn1 : 1 ≤ n := by omega
    clear e3 hi hlen
    generalize l[k] = x at *
    clear hk
    go_enter Tryd.func51, Tryd.ntmps51
    go_wp2_with (at_builtin; refine wpList_append_rd rfl (.tmp 8) (.tmp 9) _ rfl w.heap.size 35 i0 _ 4 24 Tryd.underlying22 hi0 hz0 hz1 hz2 rfl (by omega) (.slice (some ⟨w.heap.size, 0, none⟩) 0 0) 0 [] rfl (World.ownsRow_lit w #[] 0 (Nat.le_refl _) (by simp [maxLen]) (by simp)) n c (fcC l) rfl (by rw [fcC_len, HLEN.out]) HRD.out (fcC_one l) (by simp only [maxLen]; omega) (by omega) (by simp) ?_; intro v1 w1 ho1 hg1 ha1; simp only [Nat.zero_add, List.nil_append] at ho1; obtain ⟨gb, cap, rfl, hg4⟩ := own_form ho1 hn1; have hfz := ho1.frozenAt (k * 4 + 3); have hcl := ho1.cellAt (k * 4 + 3) (by omega); have hcx := fcC_up HX.out; rw [hcx] at hcl)
    go_ret
    have hst := ho1.stored (k * 4 + 3) (.bool up)
    have ho2 := hst.1
    rw [fcC_set HX.out] at ho2
    obtain ⟨A2, c2, he2, h1, h2, h3, h4⟩ := own_row ho2
    injection he2 with e1 e2 e3
    subst e1 e3
    refine ⟨⟨_, _, rfl, ⟨by rw [List.length_set]; exact HL.out.len, ⟨h1, by unfold maxLen at h2; omega⟩, h3, fun f hf => ?_⟩, h4⟩, ?_⟩
    · rcases List.mem_or_eq_of_mem_set hf with hf | rfl
      · exact HL.out.fit f hf
      · exact HFT.out
    · exact (((Below.refl _ _).alloc (Nat.le_refl _) _).grown hg1 (by simp) (by simp [Value.ownBlock])).setCell (p := ⟨gb, k * 4 + 3, none⟩) hg4 _
  · have e3 : setL l i up = l := by unfold setL; rw [if_neg (by omega)]
    rw [e3]
    clear e3 hlen
    have hsplit : decide (0 ≤ i) = false ∨ (decide (0 ≤ i) = true ∧ decide (i < (n : Int)) = false) := by
      by_cases h : 0 ≤ i
      · exact .inr ⟨decide_eq_true h, decide_eq_false (fun h' => hi ⟨h, h'⟩)⟩
      · exact .inl (decide_eq_false h)
    clear hi
    rcases hsplit with g0 | ⟨g0, g1⟩
    all_goals
      go_enter Tryd.func51, Tryd.ntmps51
      go_wp2_with (at_builtin; refine wpList_append_rd rfl (.tmp 8) (.tmp 9) _ rfl w.heap.size 35 i0 _ 4 24 Tryd.underlying22 hi0 hz0 hz1 hz2 rfl (by omega) (.slice (some ⟨w.heap.size, 0, none⟩) 0 0) 0 [] rfl (World.ownsRow_lit w #[] 0 (Nat.le_refl _) (by simp [maxLen]) (by simp)) n c (fcC l) rfl (by rw [fcC_len, HLEN.out]) HRD.out (fcC_one l) (by simp only [maxLen]; omega) (by omega) (by simp) ?_; intro v1 w1 ho1 hg1 ha1; simp only [Nat.zero_add, List.nil_append] at ho1; obtain ⟨A1, c1, rfl, h1, h2, h3, h4⟩ := own_row ho1)
      go_ret
      exact ⟨⟨_, _, rfl, ⟨HL.out.len, ⟨h1, by unfold maxLen at h2; omega⟩, h3, HL.out.fit⟩, h4⟩, ((Below.refl _ _).alloc (Nat.le_refl _) _).grown hg1 (by simp) (by simp [Value.ownBlock])⟩
end Go.Proofs.YtfgbliglgdkgpaaDoor
