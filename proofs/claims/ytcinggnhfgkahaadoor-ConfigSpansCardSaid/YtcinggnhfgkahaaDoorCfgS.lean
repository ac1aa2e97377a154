/- config.Same: lists of prefixes that are the same; spans that are the same. -/
import Derived.Test.YtcinggnhfgkahaaDoorCfgCp
import Derived.Test.YtcinggnhfgkahaaDoorCfgC
import Derived.Deep.CutRange
import Derived.Deep.CutBlock
namespace Go.Proofs.YtcinggnhfgkahaaDoor
set_option linter.unusedVariables false
set_option linter.unusedSimpArgs false
open Go.RowKit
set_option maxRecDepth 100000
theorem pl_beq (x y : Nat × Int) : ((x.1 : Int) == (y.1 : Int) && x.2 == y.2) = decide (x = y) := by
  obtain ⟨a, n⟩ := x
  obtain ⟨a', n'⟩ := y
  by_cases h : a = a' ∧ n = n'
  · rw [decide_eq_true (by rw [h.1, h.2])]
    obtain ⟨rfl, rfl⟩ := h
    simp
  · rw [decide_eq_false (fun e => h (by cases e; exact ⟨rfl, rfl⟩)), Bool.eq_false_iff]
    intro hc
    simp at hc
    exact h ⟨by omega, hc.2⟩
set_option maxHeartbeats 1000000 in
theorem pequal_any (l l' : List (Nat × Int)) (n n' : Nat) (hn : l.length = n) (hn' : l'.length = n') (A A' : Option Addr) (c c' B : Nat) (w : World) (hr : Rd w B A (plC l)) (hr' : Rd w B A' (plC l')) (hc : n ≤ 9223372036854775807) :
    Calls Tryd.prog 44 #[.slice A n c, .slice A' n' c'] w fun e w' => e = .returned (.bool (decide (l = l'))) ∧ ∃ m, w' = w.drewN m := by
  by_cases hnn : n = n'
  · subst hnn
    have HN := Lib.hid hn
    have HN' := Lib.hid hn'
    have HR := Lib.hid hr
    have HR' := Lib.hid hr'
    have g0 : ((n : Int) != (n : Int)) = false := by simp
    clear hn hn' hr hr'
    go_enter Tryd.func44, Tryd.ntmps44
    go_wp2
    go_loopw [13] (fun i wr => ∃ j : Nat, j ≤ n ∧ i = .int .i64 j ∧ (∃ m, wr = w.drewN m) ∧ l.take j = l'.take j) (fun i _ => n - (intOf i).toNat)
    case atStart => exact ⟨0, Nat.zero_le _, rfl, ⟨0, rfl⟩, by simp⟩
    case round =>
      obtain ⟨j, hj, rfl, ⟨m, rfl⟩, heq⟩ := hrel
      have HEQ := Lib.hid heq
      clear heq
      by_cases hlt : j < n
      · obtain ⟨x, hx⟩ : ∃ x, l[j]? = some x := ⟨l[j]'(by rw [HN.out]; exact hlt), List.getElem?_eq_getElem _⟩
        obtain ⟨y, hy⟩ : ∃ y, l'[j]? = some y := ⟨l'[j]'(by rw [HN'.out]; exact hlt), List.getElem?_eq_getElem _⟩
        obtain ⟨b, off, rfl, _, q0, q1⟩ := pl_at HR.out hx
        obtain ⟨b', off', rfl, _, r0, r1⟩ := pl_at HR'.out hy
        have HX := Lib.hid hx
        have HY := Lib.hid hy
        have hne := ne_pfx x.1 y.1 x.2 y.2
        rw [pl_beq] at hne
        have hi1 : (j : Int) < (n : Int) := by omega
        have hi0 : (0 : Int) ≤ (j : Int) := by omega
        simp only [← Nat.add_assoc] at q1 r1
        clear hx hy
        cases hd : decide (x = y)
        · rw [hd] at hne
          have HF := Lib.hid (show decide (l = l') = false from decide_eq_false (fun h => by
            have := HX.out
            rw [h, HY.out] at this
            exact (of_decide_eq_false hd) (Option.some.inj this).symm))
          clear hd
          go_wp2
          go_quiet (fail)
          go_wp2
          go_ret
          rw [HF.out]
          exact ⟨rfl, _, World.drewN_drewN ..⟩
        · rw [hd] at hne
          have hxy := of_decide_eq_true hd
          have HS := Lib.hid (show l.take (j + 1) = l'.take (j + 1) by rw [List.take_add_one, List.take_add_one, HEQ.out, HX.out, HY.out, hxy])
          clear hd hxy
          go_wp2
          go_quiet (fail)
          go_wp2
          go_roundw
          case rel => exact ⟨j + 1, by omega, by go_num, ⟨_, rfl⟩, HS.out⟩
          case measure => simp [intOf]; omega
      · obtain rfl : j = n := by omega
        have HT := Lib.hid (show decide (l = l') = true from decide_eq_true (by have := HEQ.out; rwa [List.take_of_length_le (by rw [HN.out]; exact Nat.le_refl _), List.take_of_length_le (by rw [HN'.out]; exact Nat.le_refl _)] at this))
        go_wp2
        go_ret
        rw [HT.out]
        exact ⟨rfl, m, rfl⟩
  · have g0 : ((n : Int) != (n' : Int)) = true := by rw [bne_iff_ne]; omega
    rw [show decide (l = l') = false from decide_eq_false (fun h => hnn (by rw [← hn, ← hn', h]))]
    clear hnn hn hn' hr hr'
    go_enter Tryd.func44, Tryd.ntmps44
    go_wp2
    go_ret
    exact ⟨rfl, 0, rfl⟩

/-- are the spans ahead of a place the same? -/
def sameS (c : Nat) (p j t h g q s p' j' t' h' g' q' s' : Int) : Prop := ∀ i, i < c → spanS i p j t h g q s = spanS i p' j' t' h' g' q' s'
theorem sameS_7 {p j t h g q s p' j' t' h' g' q' s' : Int} : sameS 7 p j t h g q s p' j' t' h' g' q' s' ↔ (p == p' && j == j' && t == t' && h == h' && g == g' && q == q' && s == s') = true := by
  simp only [Bool.and_eq_true, beq_iff_eq]
  constructor
  · intro k
    exact ⟨⟨⟨⟨⟨⟨k 0 (by omega), k 1 (by omega)⟩, k 2 (by omega)⟩, k 3 (by omega)⟩, k 4 (by omega)⟩, k 5 (by omega)⟩, k 6 (by omega)⟩
  · rintro ⟨⟨⟨⟨⟨⟨rfl, rfl⟩, rfl⟩, rfl⟩, rfl⟩, rfl⟩, rfl⟩ i _
    rfl

theorem spanOf_below (i : Nat) (p j t h g q s cp : Int) (A : Option Addr) (n k : Nat) (w : World) (hi : i < 7) :
    Calls Tryd.prog (fnS i) #[.agg #[.int .i64 p, .int .i64 j, .int .i64 t, .int .i64 h, .int .i64 g, .int .i64 q, .int .i64 s, .int .i64 cp, .slice A n k]] w fun e w' => e = .returned (.int .i64 (spanS i p j t h g q s)) ∧ Below w.heap.size w w' := by
  refine (spanOf_any i p j t h g q s cp A n k w hi).mono ?_
  rintro e w' ⟨rfl, rfl⟩
  exact ⟨rfl, balloc (Below.refl _ _) _⟩
set_option maxHeartbeats 8000000 in
theorem csame_any (p j t h g q s cp p' j' t' h' g' q' s' cp' : Int) (A A' : Option Addr) (n n' k k' : Nat) (l m : List (Nat × Int)) (hn : l.length = n) (hn' : m.length = n') (w : World) (hr : Rd w w.heap.size A (plC l)) (hr' : Rd w w.heap.size A' (plC m)) (h63 : n ≤ 9223372036854775806) :
    Calls Tryd.prog 28 #[.agg #[.int .i64 p, .int .i64 j, .int .i64 t, .int .i64 h, .int .i64 g, .int .i64 q, .int .i64 s, .int .i64 cp, .slice A n k], .agg #[.int .i64 p', .int .i64 j', .int .i64 t', .int .i64 h', .int .i64 g', .int .i64 q', .int .i64 s', .int .i64 cp', .slice A' n' k']] w fun e w' => e = .returned (.bool ((p == p' && j == j' && t == t' && h == h' && g == g' && q == q' && s == s') && cp == cp' && decide (l = m))) ∧ Below w.heap.size w w' := by
  have hB0 : Below w.heap.size w ((w.alloc (.cells #[.int .i64 p, .int .i64 j, .int .i64 t, .int .i64 h, .int .i64 g, .int .i64 q, .int .i64 s, .int .i64 cp, .slice A n k] 24)).alloc (.cells #[.int .i64 p', .int .i64 j', .int .i64 t', .int .i64 h', .int .i64 g', .int .i64 q', .int .i64 s', .int .i64 cp', .slice A' n' k'] 24)) := balloc (balloc (Below.refl _ _) _) _
  have x0 := (Blk.new w 24 #[.int .i64 p, .int .i64 j, .int .i64 t, .int .i64 h, .int .i64 g, .int .i64 q, .int .i64 s, .int .i64 cp, .slice A n k]).alloc (.cells #[.int .i64 p', .int .i64 j', .int .i64 t', .int .i64 h', .int .i64 g', .int .i64 q', .int .i64 s', .int .i64 cp', .slice A' n' k'] 24)
  have x1 := Blk.new (w.alloc (.cells #[.int .i64 p, .int .i64 j, .int .i64 t, .int .i64 h, .int .i64 g, .int .i64 q, .int .i64 s, .int .i64 cp, .slice A n k] 24)) 24 #[.int .i64 p', .int .i64 j', .int .i64 t', .int .i64 h', .int .i64 g', .int .i64 q', .int .i64 s', .int .i64 cp', .slice A' n' k']
  rw [World.size_alloc] at x1
  obtain ⟨w0, hw0⟩ : ∃ w0, w0 = (w.alloc (.cells #[.int .i64 p, .int .i64 j, .int .i64 t, .int .i64 h, .int .i64 g, .int .i64 q, .int .i64 s, .int .i64 cp, .slice A n k] 24)).alloc (.cells #[.int .i64 p', .int .i64 j', .int .i64 t', .int .i64 h', .int .i64 g', .int .i64 q', .int .i64 s', .int .i64 cp', .slice A' n' k'] 24) := ⟨_, rfl⟩
  rw [← hw0] at x0 x1 hB0
  have HW0 := Lib.hid hw0
  have HEQL := Lib.hid (fun W (hb : Below w.heap.size w W) => pequal_any l m n n' hn hn' A A' k k' w.heap.size W (hr.below hb) (hr'.below hb) (by omega))
  have X := Lib.hid (And.intro x0 (And.intro x1 hB0))
  clear hw0 hr hr' hn hn' x0 x1 hB0 h63
  generalize hD : decide (l = m) = dl at *
  clear hD
  go_enter Tryd.func28, Tryd.ntmps28
  go_upto_region 1 with fail
  rw [← HW0.out]
  go_wp2_with fail
  refine (spans_any _).mono ?_
  rintro e w1 ⟨rfl, hT, hb1⟩
  obtain ⟨x0, x1, hB0⟩ := X.out
  have Y := Lib.hid (And.intro (x0.below hb1 x0.lt) (And.intro (x1.below hb1 x1.lt) (And.intro hT (bnext hB0 hb1))))
  clear X x0 x1 hB0 hT hb1
  obtain ⟨bT, hbT⟩ : ∃ bT, bT = w0.heap.size := ⟨_, rfl⟩
  rw [← hbT] at Y ⊢
  clear hbT
  go_wp2_with fail
  go_loopw [9] (fun i wr => ∃ c : Nat, c ≤ 7 ∧ i = .int .i64 c ∧ Hid (Below w1.heap.size w1 wr) ∧ Hid (sameS c p j t h g q s p' j' t' h' g' q' s')) (fun i _ => 7 - (intOf i).toNat)
  case atStart => exact ⟨0, by omega, rfl, Lib.hid (Below.refl _ _), Lib.hid (fun i hi => by omega)⟩
  case round =>
    obtain ⟨c, hc, rfl, HB, HS⟩ := hrel
    by_cases hlt : c < 7
    case neg =>
      obtain rfl : c = 7 := by omega
      have h7 := Lib.hid (sameS_7.1 HS.out)
      have y0 := Y.out.1.below HB.out Y.out.1.lt
      have y1 := Y.out.2.1.below HB.out Y.out.2.1.lt
      have BB := bnext Y.out.2.2.2 HB.out
      have HEc := Lib.hid (HEQL.out _ BB)
      have a0 := (y0).cell 0
      have a1 := (y0).cell 1
      have a2 := (y0).cell 2
      have a3 := (y0).cell 3
      have a4 := (y0).cell 4
      have a5 := (y0).cell 5
      have a6 := (y0).cell 6
      have a7 := (y0).cell 7
      have a8 := (y0).cell 8
      simp only [List.getElem?_toArray, List.getElem?_cons_zero, List.getElem?_cons_succ] at a0 a1 a2 a3 a4 a5 a6 a7 a8
      have b0 := (y1).cell 0
      have b1 := (y1).cell 1
      have b2 := (y1).cell 2
      have b3 := (y1).cell 3
      have b4 := (y1).cell 4
      have b5 := (y1).cell 5
      have b6 := (y1).cell 6
      have b7 := (y1).cell 7
      have b8 := (y1).cell 8
      simp only [List.getElem?_toArray, List.getElem?_cons_zero, List.getElem?_cons_succ] at b0 b1 b2 b3 b4 b5 b6 b7 b8
      have HBB := Lib.hid BB
      clear y0 y1 BB
      cases hcp : (cp == cp')
      · go_wp2_with fail
        go_ret
        exact ⟨by rw [h7.out, hcp]; rfl, HBB.out⟩
      · go_wp2_with fail
        refine HEc.out.mono ?_
        rintro e w2 ⟨rfl, nq, rfl⟩
        go_wp2_with fail
        go_ret
        exact ⟨by rw [h7.out, hcp]; simp, below_drewN HBB.out nq⟩
    case pos =>
      have hT := Y.out.2.2.1.below HB.out Y.out.2.2.1.lt
      have y0 := Y.out.1.below HB.out Y.out.1.lt
      have y1 := Y.out.2.1.below HB.out Y.out.2.1.lt
      have BB := bnext Y.out.2.2.2 HB.out
      have hwl : IntKind.i64.wrap ((c : Int) + 1) = (c : Int) + 1 := IntWalk.i64_in _ ⟨by omega, by omega⟩
      rcases (by omega : c = 0 ∨ c = 1 ∨ c = 2 ∨ c = 3 ∨ c = 4 ∨ c = 5 ∨ c = 6) with rfl | rfl | rfl | rfl | rfl | rfl | rfl
      · obtain ⟨nm, hnm⟩ : ∃ nm, nm = nmS 0 := ⟨_, rfl⟩
        obtain ⟨ls, hls⟩ : ∃ ls, ls = lstS 0 := ⟨_, rfl⟩
        have a0 : wr.cell? ⟨bT, 0, none⟩ = some (.string nm) := by
          rw [hT.cell]
          have q0 := (tabS_at 7 0 (by omega)).1
          rw [if_pos (by omega)] at q0
          rw [hnm]
          exact q0
        have a1 : wr.cell? ⟨bT, 0 + 1, none⟩ = some (.int .i64 ls) := by
          rw [hT.cell, hls]
          exact (tabS_at 7 0 (by omega)).2.1
        have a2 : wr.cell? ⟨bT, 0 + 2, none⟩ = some (.func (.func 49) #[] #[]) := by
          rw [hT.cell]
          exact (tabS_at 7 0 (by omega)).2.2
        simp only [Nat.reduceAdd] at a1 a2
        clear hnm hls
        have he := Blk.new wr 73 #[.string nm, .int .i64 ls, .func (.func 49) #[] #[]]
        have y2 := y0.alloc (.cells #[.string nm, .int .i64 ls, .func (.func 49) #[] #[]] 73)
        have y3 := y1.alloc (.cells #[.string nm, .int .i64 ls, .func (.func 49) #[] #[]] 73)
        have B3 := balloc (Below.refl wr.heap.size wr) (.cells #[.string nm, .int .i64 ls, .func (.func 49) #[] #[]] 73)
        obtain ⟨w3, hw3⟩ : ∃ w3, w3 = wr.alloc (.cells #[.string nm, .int .i64 ls, .func (.func 49) #[] #[]] 73) := ⟨_, rfl⟩
        rw [← hw3] at he y2 y3 B3
        have e0 := fun v : Sub w3 => ((he).below v.2 (he).lt).cell 0
        have e1 := fun v : Sub w3 => ((he).below v.2 (he).lt).cell 1
        have e2 := fun v : Sub w3 => ((he).below v.2 (he).lt).cell 2
        simp only [List.getElem?_toArray, List.getElem?_cons_zero, List.getElem?_cons_succ] at e0 e1 e2
        have a0 := fun v : Sub w3 => ((y2).below v.2 (y2).lt).cell 0
        have a1 := fun v : Sub w3 => ((y2).below v.2 (y2).lt).cell 1
        have a2 := fun v : Sub w3 => ((y2).below v.2 (y2).lt).cell 2
        have a3 := fun v : Sub w3 => ((y2).below v.2 (y2).lt).cell 3
        have a4 := fun v : Sub w3 => ((y2).below v.2 (y2).lt).cell 4
        have a5 := fun v : Sub w3 => ((y2).below v.2 (y2).lt).cell 5
        have a6 := fun v : Sub w3 => ((y2).below v.2 (y2).lt).cell 6
        have a7 := fun v : Sub w3 => ((y2).below v.2 (y2).lt).cell 7
        have a8 := fun v : Sub w3 => ((y2).below v.2 (y2).lt).cell 8
        simp only [List.getElem?_toArray, List.getElem?_cons_zero, List.getElem?_cons_succ] at a0 a1 a2 a3 a4 a5 a6 a7 a8
        have b0 := fun v : Sub w3 => ((y3).below v.2 (y3).lt).cell 0
        have b1 := fun v : Sub w3 => ((y3).below v.2 (y3).lt).cell 1
        have b2 := fun v : Sub w3 => ((y3).below v.2 (y3).lt).cell 2
        have b3 := fun v : Sub w3 => ((y3).below v.2 (y3).lt).cell 3
        have b4 := fun v : Sub w3 => ((y3).below v.2 (y3).lt).cell 4
        have b5 := fun v : Sub w3 => ((y3).below v.2 (y3).lt).cell 5
        have b6 := fun v : Sub w3 => ((y3).below v.2 (y3).lt).cell 6
        have b7 := fun v : Sub w3 => ((y3).below v.2 (y3).lt).cell 7
        have b8 := fun v : Sub w3 => ((y3).below v.2 (y3).lt).cell 8
        simp only [List.getElem?_toArray, List.getElem?_cons_zero, List.getElem?_cons_succ] at b0 b1 b2 b3 b4 b5 b6 b7 b8
        have hne : Nonempty (Sub w3) := ⟨⟨_, Below.refl _ _⟩⟩
        have HA : Hid (∀ v : Sub w3, Calls Tryd.prog 49 #[.agg #[.int .i64 p, .int .i64 j, .int .i64 t, .int .i64 h, .int .i64 g, .int .i64 q, .int .i64 s, .int .i64 cp, .slice A n k]] v.1 fun e w' => e = .returned (.int .i64 p) ∧ Below v.1.heap.size v.1 w') := Lib.hid (fun v => spanOf_below 0 p j t h g q s cp A n k v.1 (by omega))
        have HC : Hid (∀ v : Sub w3, Calls Tryd.prog 49 #[.agg #[.int .i64 p', .int .i64 j', .int .i64 t', .int .i64 h', .int .i64 g', .int .i64 q', .int .i64 s', .int .i64 cp', .slice A' n' k']] v.1 fun e w' => e = .returned (.int .i64 p') ∧ Below v.1.heap.size v.1 w') := Lib.hid (fun v => spanOf_below 0 p' j' t' h' g' q' s' cp' A' n' k' v.1 (by omega))
        have HW3 := Lib.hid hw3
        have HB3 := Lib.hid (And.intro B3 BB)
        clear hw3 he y2 y3 B3 hT y0 y1 BB
        by_cases hx : p = p'
        case' pos => have d1 : (p != p') = false := by simpa using hx
        case' neg => have d1 : (p != p') = true := by simpa using hx
        all_goals
          have HX := Lib.hid hx
          clear hx
          go_upto_region 4 with fail
          rw [← HW3.out]
          refine region_sub (by kernel_rfl) (by kernel_rfl) ?_
          repeat (first | go_big_quiet_step (((with_reducible (first | exact sub_below (HA.out _) | exact sub_below (HC.out _))))) | quiet_step (((with_reducible (first | exact sub_below (HA.out _) | exact sub_below (HC.out _))))))
          refine wpQuiet_nil ?_
          rintro _ ⟨v, rfl⟩
          go_wp2_with fail
        · go_ret
          have hf : (p == p' && j == j' && t == t' && h == h' && g == g' && q == q' && s == s') = false := by
            rw [Bool.eq_false_iff]
            intro hh
            exact HX.out (sameS_7.2 hh 0 (by omega))
          rw [hf]
          exact ⟨rfl, bnext HB3.out.2 (bnext HB3.out.1 v.2)⟩
        · go_roundw
          case rel =>
            refine ⟨1, by omega, by go_num, Lib.hid (HB.out.trans ((bnext HB3.out.1 v.2).mono HB.out.size)), Lib.hid (fun i hi => ?_)⟩
            rcases (by omega : i < 0 ∨ i = 0) with hi | rfl
            · exact HS.out i hi
            · exact HX.out
          case measure => simp [intOf]
      · obtain ⟨nm, hnm⟩ : ∃ nm, nm = nmS 1 := ⟨_, rfl⟩
        obtain ⟨ls, hls⟩ : ∃ ls, ls = lstS 1 := ⟨_, rfl⟩
        have a0 : wr.cell? ⟨bT, 3, none⟩ = some (.string nm) := by
          rw [hT.cell]
          have q0 := (tabS_at 7 1 (by omega)).1
          rw [if_pos (by omega)] at q0
          rw [hnm]
          exact q0
        have a1 : wr.cell? ⟨bT, 3 + 1, none⟩ = some (.int .i64 ls) := by
          rw [hT.cell, hls]
          exact (tabS_at 7 1 (by omega)).2.1
        have a2 : wr.cell? ⟨bT, 3 + 2, none⟩ = some (.func (.func 50) #[] #[]) := by
          rw [hT.cell]
          exact (tabS_at 7 1 (by omega)).2.2
        simp only [Nat.reduceAdd] at a1 a2
        clear hnm hls
        have he := Blk.new wr 73 #[.string nm, .int .i64 ls, .func (.func 50) #[] #[]]
        have y2 := y0.alloc (.cells #[.string nm, .int .i64 ls, .func (.func 50) #[] #[]] 73)
        have y3 := y1.alloc (.cells #[.string nm, .int .i64 ls, .func (.func 50) #[] #[]] 73)
        have B3 := balloc (Below.refl wr.heap.size wr) (.cells #[.string nm, .int .i64 ls, .func (.func 50) #[] #[]] 73)
        obtain ⟨w3, hw3⟩ : ∃ w3, w3 = wr.alloc (.cells #[.string nm, .int .i64 ls, .func (.func 50) #[] #[]] 73) := ⟨_, rfl⟩
        rw [← hw3] at he y2 y3 B3
        have e0 := fun v : Sub w3 => ((he).below v.2 (he).lt).cell 0
        have e1 := fun v : Sub w3 => ((he).below v.2 (he).lt).cell 1
        have e2 := fun v : Sub w3 => ((he).below v.2 (he).lt).cell 2
        simp only [List.getElem?_toArray, List.getElem?_cons_zero, List.getElem?_cons_succ] at e0 e1 e2
        have a0 := fun v : Sub w3 => ((y2).below v.2 (y2).lt).cell 0
        have a1 := fun v : Sub w3 => ((y2).below v.2 (y2).lt).cell 1
        have a2 := fun v : Sub w3 => ((y2).below v.2 (y2).lt).cell 2
        have a3 := fun v : Sub w3 => ((y2).below v.2 (y2).lt).cell 3
        have a4 := fun v : Sub w3 => ((y2).below v.2 (y2).lt).cell 4
        have a5 := fun v : Sub w3 => ((y2).below v.2 (y2).lt).cell 5
        have a6 := fun v : Sub w3 => ((y2).below v.2 (y2).lt).cell 6
        have a7 := fun v : Sub w3 => ((y2).below v.2 (y2).lt).cell 7
        have a8 := fun v : Sub w3 => ((y2).below v.2 (y2).lt).cell 8
        simp only [List.getElem?_toArray, List.getElem?_cons_zero, List.getElem?_cons_succ] at a0 a1 a2 a3 a4 a5 a6 a7 a8
        have b0 := fun v : Sub w3 => ((y3).below v.2 (y3).lt).cell 0
        have b1 := fun v : Sub w3 => ((y3).below v.2 (y3).lt).cell 1
        have b2 := fun v : Sub w3 => ((y3).below v.2 (y3).lt).cell 2
        have b3 := fun v : Sub w3 => ((y3).below v.2 (y3).lt).cell 3
        have b4 := fun v : Sub w3 => ((y3).below v.2 (y3).lt).cell 4
        have b5 := fun v : Sub w3 => ((y3).below v.2 (y3).lt).cell 5
        have b6 := fun v : Sub w3 => ((y3).below v.2 (y3).lt).cell 6
        have b7 := fun v : Sub w3 => ((y3).below v.2 (y3).lt).cell 7
        have b8 := fun v : Sub w3 => ((y3).below v.2 (y3).lt).cell 8
        simp only [List.getElem?_toArray, List.getElem?_cons_zero, List.getElem?_cons_succ] at b0 b1 b2 b3 b4 b5 b6 b7 b8
        have hne : Nonempty (Sub w3) := ⟨⟨_, Below.refl _ _⟩⟩
        have HA : Hid (∀ v : Sub w3, Calls Tryd.prog 50 #[.agg #[.int .i64 p, .int .i64 j, .int .i64 t, .int .i64 h, .int .i64 g, .int .i64 q, .int .i64 s, .int .i64 cp, .slice A n k]] v.1 fun e w' => e = .returned (.int .i64 j) ∧ Below v.1.heap.size v.1 w') := Lib.hid (fun v => spanOf_below 1 p j t h g q s cp A n k v.1 (by omega))
        have HC : Hid (∀ v : Sub w3, Calls Tryd.prog 50 #[.agg #[.int .i64 p', .int .i64 j', .int .i64 t', .int .i64 h', .int .i64 g', .int .i64 q', .int .i64 s', .int .i64 cp', .slice A' n' k']] v.1 fun e w' => e = .returned (.int .i64 j') ∧ Below v.1.heap.size v.1 w') := Lib.hid (fun v => spanOf_below 1 p' j' t' h' g' q' s' cp' A' n' k' v.1 (by omega))
        have HW3 := Lib.hid hw3
        have HB3 := Lib.hid (And.intro B3 BB)
        clear hw3 he y2 y3 B3 hT y0 y1 BB
        by_cases hx : j = j'
        case' pos => have d1 : (j != j') = false := by simpa using hx
        case' neg => have d1 : (j != j') = true := by simpa using hx
        all_goals
          have HX := Lib.hid hx
          clear hx
          go_upto_region 4 with fail
          rw [← HW3.out]
          refine region_sub (by kernel_rfl) (by kernel_rfl) ?_
          repeat (first | go_big_quiet_step (((with_reducible (first | exact sub_below (HA.out _) | exact sub_below (HC.out _))))) | quiet_step (((with_reducible (first | exact sub_below (HA.out _) | exact sub_below (HC.out _))))))
          refine wpQuiet_nil ?_
          rintro _ ⟨v, rfl⟩
          go_wp2_with fail
        · go_ret
          have hf : (p == p' && j == j' && t == t' && h == h' && g == g' && q == q' && s == s') = false := by
            rw [Bool.eq_false_iff]
            intro hh
            exact HX.out (sameS_7.2 hh 1 (by omega))
          rw [hf]
          exact ⟨rfl, bnext HB3.out.2 (bnext HB3.out.1 v.2)⟩
        · go_roundw
          case rel =>
            refine ⟨2, by omega, by go_num, Lib.hid (HB.out.trans ((bnext HB3.out.1 v.2).mono HB.out.size)), Lib.hid (fun i hi => ?_)⟩
            rcases (by omega : i < 1 ∨ i = 1) with hi | rfl
            · exact HS.out i hi
            · exact HX.out
          case measure => simp [intOf]
      · obtain ⟨nm, hnm⟩ : ∃ nm, nm = nmS 2 := ⟨_, rfl⟩
        obtain ⟨ls, hls⟩ : ∃ ls, ls = lstS 2 := ⟨_, rfl⟩
        have a0 : wr.cell? ⟨bT, 6, none⟩ = some (.string nm) := by
          rw [hT.cell]
          have q0 := (tabS_at 7 2 (by omega)).1
          rw [if_pos (by omega)] at q0
          rw [hnm]
          exact q0
        have a1 : wr.cell? ⟨bT, 6 + 1, none⟩ = some (.int .i64 ls) := by
          rw [hT.cell, hls]
          exact (tabS_at 7 2 (by omega)).2.1
        have a2 : wr.cell? ⟨bT, 6 + 2, none⟩ = some (.func (.func 51) #[] #[]) := by
          rw [hT.cell]
          exact (tabS_at 7 2 (by omega)).2.2
        simp only [Nat.reduceAdd] at a1 a2
        clear hnm hls
        have he := Blk.new wr 73 #[.string nm, .int .i64 ls, .func (.func 51) #[] #[]]
        have y2 := y0.alloc (.cells #[.string nm, .int .i64 ls, .func (.func 51) #[] #[]] 73)
        have y3 := y1.alloc (.cells #[.string nm, .int .i64 ls, .func (.func 51) #[] #[]] 73)
        have B3 := balloc (Below.refl wr.heap.size wr) (.cells #[.string nm, .int .i64 ls, .func (.func 51) #[] #[]] 73)
        obtain ⟨w3, hw3⟩ : ∃ w3, w3 = wr.alloc (.cells #[.string nm, .int .i64 ls, .func (.func 51) #[] #[]] 73) := ⟨_, rfl⟩
        rw [← hw3] at he y2 y3 B3
        have e0 := fun v : Sub w3 => ((he).below v.2 (he).lt).cell 0
        have e1 := fun v : Sub w3 => ((he).below v.2 (he).lt).cell 1
        have e2 := fun v : Sub w3 => ((he).below v.2 (he).lt).cell 2
        simp only [List.getElem?_toArray, List.getElem?_cons_zero, List.getElem?_cons_succ] at e0 e1 e2
        have a0 := fun v : Sub w3 => ((y2).below v.2 (y2).lt).cell 0
        have a1 := fun v : Sub w3 => ((y2).below v.2 (y2).lt).cell 1
        have a2 := fun v : Sub w3 => ((y2).below v.2 (y2).lt).cell 2
        have a3 := fun v : Sub w3 => ((y2).below v.2 (y2).lt).cell 3
        have a4 := fun v : Sub w3 => ((y2).below v.2 (y2).lt).cell 4
        have a5 := fun v : Sub w3 => ((y2).below v.2 (y2).lt).cell 5
        have a6 := fun v : Sub w3 => ((y2).below v.2 (y2).lt).cell 6
        have a7 := fun v : Sub w3 => ((y2).below v.2 (y2).lt).cell 7
        have a8 := fun v : Sub w3 => ((y2).below v.2 (y2).lt).cell 8
        simp only [List.getElem?_toArray, List.getElem?_cons_zero, List.getElem?_cons_succ] at a0 a1 a2 a3 a4 a5 a6 a7 a8
        have b0 := fun v : Sub w3 => ((y3).below v.2 (y3).lt).cell 0
        have b1 := fun v : Sub w3 => ((y3).below v.2 (y3).lt).cell 1
        have b2 := fun v : Sub w3 => ((y3).below v.2 (y3).lt).cell 2
        have b3 := fun v : Sub w3 => ((y3).below v.2 (y3).lt).cell 3
        have b4 := fun v : Sub w3 => ((y3).below v.2 (y3).lt).cell 4
        have b5 := fun v : Sub w3 => ((y3).below v.2 (y3).lt).cell 5
        have b6 := fun v : Sub w3 => ((y3).below v.2 (y3).lt).cell 6
        have b7 := fun v : Sub w3 => ((y3).below v.2 (y3).lt).cell 7
        have b8 := fun v : Sub w3 => ((y3).below v.2 (y3).lt).cell 8
        simp only [List.getElem?_toArray, List.getElem?_cons_zero, List.getElem?_cons_succ] at b0 b1 b2 b3 b4 b5 b6 b7 b8
        have hne : Nonempty (Sub w3) := ⟨⟨_, Below.refl _ _⟩⟩
        have HA : Hid (∀ v : Sub w3, Calls Tryd.prog 51 #[.agg #[.int .i64 p, .int .i64 j, .int .i64 t, .int .i64 h, .int .i64 g, .int .i64 q, .int .i64 s, .int .i64 cp, .slice A n k]] v.1 fun e w' => e = .returned (.int .i64 t) ∧ Below v.1.heap.size v.1 w') := Lib.hid (fun v => spanOf_below 2 p j t h g q s cp A n k v.1 (by omega))
        have HC : Hid (∀ v : Sub w3, Calls Tryd.prog 51 #[.agg #[.int .i64 p', .int .i64 j', .int .i64 t', .int .i64 h', .int .i64 g', .int .i64 q', .int .i64 s', .int .i64 cp', .slice A' n' k']] v.1 fun e w' => e = .returned (.int .i64 t') ∧ Below v.1.heap.size v.1 w') := Lib.hid (fun v => spanOf_below 2 p' j' t' h' g' q' s' cp' A' n' k' v.1 (by omega))
        have HW3 := Lib.hid hw3
        have HB3 := Lib.hid (And.intro B3 BB)
        clear hw3 he y2 y3 B3 hT y0 y1 BB
        by_cases hx : t = t'
        case' pos => have d1 : (t != t') = false := by simpa using hx
        case' neg => have d1 : (t != t') = true := by simpa using hx
        all_goals
          have HX := Lib.hid hx
          clear hx
          go_upto_region 4 with fail
          rw [← HW3.out]
          refine region_sub (by kernel_rfl) (by kernel_rfl) ?_
          repeat (first | go_big_quiet_step (((with_reducible (first | exact sub_below (HA.out _) | exact sub_below (HC.out _))))) | quiet_step (((with_reducible (first | exact sub_below (HA.out _) | exact sub_below (HC.out _))))))
          refine wpQuiet_nil ?_
          rintro _ ⟨v, rfl⟩
          go_wp2_with fail
        · go_ret
          have hf : (p == p' && j == j' && t == t' && h == h' && g == g' && q == q' && s == s') = false := by
            rw [Bool.eq_false_iff]
            intro hh
            exact HX.out (sameS_7.2 hh 2 (by omega))
          rw [hf]
          exact ⟨rfl, bnext HB3.out.2 (bnext HB3.out.1 v.2)⟩
        · go_roundw
          case rel =>
            refine ⟨3, by omega, by go_num, Lib.hid (HB.out.trans ((bnext HB3.out.1 v.2).mono HB.out.size)), Lib.hid (fun i hi => ?_)⟩
            rcases (by omega : i < 2 ∨ i = 2) with hi | rfl
            · exact HS.out i hi
            · exact HX.out
          case measure => simp [intOf]
      · obtain ⟨nm, hnm⟩ : ∃ nm, nm = nmS 3 := ⟨_, rfl⟩
        obtain ⟨ls, hls⟩ : ∃ ls, ls = lstS 3 := ⟨_, rfl⟩
        have a0 : wr.cell? ⟨bT, 9, none⟩ = some (.string nm) := by
          rw [hT.cell]
          have q0 := (tabS_at 7 3 (by omega)).1
          rw [if_pos (by omega)] at q0
          rw [hnm]
          exact q0
        have a1 : wr.cell? ⟨bT, 9 + 1, none⟩ = some (.int .i64 ls) := by
          rw [hT.cell, hls]
          exact (tabS_at 7 3 (by omega)).2.1
        have a2 : wr.cell? ⟨bT, 9 + 2, none⟩ = some (.func (.func 52) #[] #[]) := by
          rw [hT.cell]
          exact (tabS_at 7 3 (by omega)).2.2
        simp only [Nat.reduceAdd] at a1 a2
        clear hnm hls
        have he := Blk.new wr 73 #[.string nm, .int .i64 ls, .func (.func 52) #[] #[]]
        have y2 := y0.alloc (.cells #[.string nm, .int .i64 ls, .func (.func 52) #[] #[]] 73)
        have y3 := y1.alloc (.cells #[.string nm, .int .i64 ls, .func (.func 52) #[] #[]] 73)
        have B3 := balloc (Below.refl wr.heap.size wr) (.cells #[.string nm, .int .i64 ls, .func (.func 52) #[] #[]] 73)
        obtain ⟨w3, hw3⟩ : ∃ w3, w3 = wr.alloc (.cells #[.string nm, .int .i64 ls, .func (.func 52) #[] #[]] 73) := ⟨_, rfl⟩
        rw [← hw3] at he y2 y3 B3
        have e0 := fun v : Sub w3 => ((he).below v.2 (he).lt).cell 0
        have e1 := fun v : Sub w3 => ((he).below v.2 (he).lt).cell 1
        have e2 := fun v : Sub w3 => ((he).below v.2 (he).lt).cell 2
        simp only [List.getElem?_toArray, List.getElem?_cons_zero, List.getElem?_cons_succ] at e0 e1 e2
        have a0 := fun v : Sub w3 => ((y2).below v.2 (y2).lt).cell 0
        have a1 := fun v : Sub w3 => ((y2).below v.2 (y2).lt).cell 1
        have a2 := fun v : Sub w3 => ((y2).below v.2 (y2).lt).cell 2
        have a3 := fun v : Sub w3 => ((y2).below v.2 (y2).lt).cell 3
        have a4 := fun v : Sub w3 => ((y2).below v.2 (y2).lt).cell 4
        have a5 := fun v : Sub w3 => ((y2).below v.2 (y2).lt).cell 5
        have a6 := fun v : Sub w3 => ((y2).below v.2 (y2).lt).cell 6
        have a7 := fun v : Sub w3 => ((y2).below v.2 (y2).lt).cell 7
        have a8 := fun v : Sub w3 => ((y2).below v.2 (y2).lt).cell 8
        simp only [List.getElem?_toArray, List.getElem?_cons_zero, List.getElem?_cons_succ] at a0 a1 a2 a3 a4 a5 a6 a7 a8
        have b0 := fun v : Sub w3 => ((y3).below v.2 (y3).lt).cell 0
        have b1 := fun v : Sub w3 => ((y3).below v.2 (y3).lt).cell 1
        have b2 := fun v : Sub w3 => ((y3).below v.2 (y3).lt).cell 2
        have b3 := fun v : Sub w3 => ((y3).below v.2 (y3).lt).cell 3
        have b4 := fun v : Sub w3 => ((y3).below v.2 (y3).lt).cell 4
        have b5 := fun v : Sub w3 => ((y3).below v.2 (y3).lt).cell 5
        have b6 := fun v : Sub w3 => ((y3).below v.2 (y3).lt).cell 6
        have b7 := fun v : Sub w3 => ((y3).below v.2 (y3).lt).cell 7
        have b8 := fun v : Sub w3 => ((y3).below v.2 (y3).lt).cell 8
        simp only [List.getElem?_toArray, List.getElem?_cons_zero, List.getElem?_cons_succ] at b0 b1 b2 b3 b4 b5 b6 b7 b8
        have hne : Nonempty (Sub w3) := ⟨⟨_, Below.refl _ _⟩⟩
        have HA : Hid (∀ v : Sub w3, Calls Tryd.prog 52 #[.agg #[.int .i64 p, .int .i64 j, .int .i64 t, .int .i64 h, .int .i64 g, .int .i64 q, .int .i64 s, .int .i64 cp, .slice A n k]] v.1 fun e w' => e = .returned (.int .i64 h) ∧ Below v.1.heap.size v.1 w') := Lib.hid (fun v => spanOf_below 3 p j t h g q s cp A n k v.1 (by omega))
        have HC : Hid (∀ v : Sub w3, Calls Tryd.prog 52 #[.agg #[.int .i64 p', .int .i64 j', .int .i64 t', .int .i64 h', .int .i64 g', .int .i64 q', .int .i64 s', .int .i64 cp', .slice A' n' k']] v.1 fun e w' => e = .returned (.int .i64 h') ∧ Below v.1.heap.size v.1 w') := Lib.hid (fun v => spanOf_below 3 p' j' t' h' g' q' s' cp' A' n' k' v.1 (by omega))
        have HW3 := Lib.hid hw3
        have HB3 := Lib.hid (And.intro B3 BB)
        clear hw3 he y2 y3 B3 hT y0 y1 BB
        by_cases hx : h = h'
        case' pos => have d1 : (h != h') = false := by simpa using hx
        case' neg => have d1 : (h != h') = true := by simpa using hx
        all_goals
          have HX := Lib.hid hx
          clear hx
          go_upto_region 4 with fail
          rw [← HW3.out]
          refine region_sub (by kernel_rfl) (by kernel_rfl) ?_
          repeat (first | go_big_quiet_step (((with_reducible (first | exact sub_below (HA.out _) | exact sub_below (HC.out _))))) | quiet_step (((with_reducible (first | exact sub_below (HA.out _) | exact sub_below (HC.out _))))))
          refine wpQuiet_nil ?_
          rintro _ ⟨v, rfl⟩
          go_wp2_with fail
        · go_ret
          have hf : (p == p' && j == j' && t == t' && h == h' && g == g' && q == q' && s == s') = false := by
            rw [Bool.eq_false_iff]
            intro hh
            exact HX.out (sameS_7.2 hh 3 (by omega))
          rw [hf]
          exact ⟨rfl, bnext HB3.out.2 (bnext HB3.out.1 v.2)⟩
        · go_roundw
          case rel =>
            refine ⟨4, by omega, by go_num, Lib.hid (HB.out.trans ((bnext HB3.out.1 v.2).mono HB.out.size)), Lib.hid (fun i hi => ?_)⟩
            rcases (by omega : i < 3 ∨ i = 3) with hi | rfl
            · exact HS.out i hi
            · exact HX.out
          case measure => simp [intOf]
      · obtain ⟨nm, hnm⟩ : ∃ nm, nm = nmS 4 := ⟨_, rfl⟩
        obtain ⟨ls, hls⟩ : ∃ ls, ls = lstS 4 := ⟨_, rfl⟩
        have a0 : wr.cell? ⟨bT, 12, none⟩ = some (.string nm) := by
          rw [hT.cell]
          have q0 := (tabS_at 7 4 (by omega)).1
          rw [if_pos (by omega)] at q0
          rw [hnm]
          exact q0
        have a1 : wr.cell? ⟨bT, 12 + 1, none⟩ = some (.int .i64 ls) := by
          rw [hT.cell, hls]
          exact (tabS_at 7 4 (by omega)).2.1
        have a2 : wr.cell? ⟨bT, 12 + 2, none⟩ = some (.func (.func 53) #[] #[]) := by
          rw [hT.cell]
          exact (tabS_at 7 4 (by omega)).2.2
        simp only [Nat.reduceAdd] at a1 a2
        clear hnm hls
        have he := Blk.new wr 73 #[.string nm, .int .i64 ls, .func (.func 53) #[] #[]]
        have y2 := y0.alloc (.cells #[.string nm, .int .i64 ls, .func (.func 53) #[] #[]] 73)
        have y3 := y1.alloc (.cells #[.string nm, .int .i64 ls, .func (.func 53) #[] #[]] 73)
        have B3 := balloc (Below.refl wr.heap.size wr) (.cells #[.string nm, .int .i64 ls, .func (.func 53) #[] #[]] 73)
        obtain ⟨w3, hw3⟩ : ∃ w3, w3 = wr.alloc (.cells #[.string nm, .int .i64 ls, .func (.func 53) #[] #[]] 73) := ⟨_, rfl⟩
        rw [← hw3] at he y2 y3 B3
        have e0 := fun v : Sub w3 => ((he).below v.2 (he).lt).cell 0
        have e1 := fun v : Sub w3 => ((he).below v.2 (he).lt).cell 1
        have e2 := fun v : Sub w3 => ((he).below v.2 (he).lt).cell 2
        simp only [List.getElem?_toArray, List.getElem?_cons_zero, List.getElem?_cons_succ] at e0 e1 e2
        have a0 := fun v : Sub w3 => ((y2).below v.2 (y2).lt).cell 0
        have a1 := fun v : Sub w3 => ((y2).below v.2 (y2).lt).cell 1
        have a2 := fun v : Sub w3 => ((y2).below v.2 (y2).lt).cell 2
        have a3 := fun v : Sub w3 => ((y2).below v.2 (y2).lt).cell 3
        have a4 := fun v : Sub w3 => ((y2).below v.2 (y2).lt).cell 4
        have a5 := fun v : Sub w3 => ((y2).below v.2 (y2).lt).cell 5
        have a6 := fun v : Sub w3 => ((y2).below v.2 (y2).lt).cell 6
        have a7 := fun v : Sub w3 => ((y2).below v.2 (y2).lt).cell 7
        have a8 := fun v : Sub w3 => ((y2).below v.2 (y2).lt).cell 8
        simp only [List.getElem?_toArray, List.getElem?_cons_zero, List.getElem?_cons_succ] at a0 a1 a2 a3 a4 a5 a6 a7 a8
        have b0 := fun v : Sub w3 => ((y3).below v.2 (y3).lt).cell 0
        have b1 := fun v : Sub w3 => ((y3).below v.2 (y3).lt).cell 1
        have b2 := fun v : Sub w3 => ((y3).below v.2 (y3).lt).cell 2
        have b3 := fun v : Sub w3 => ((y3).below v.2 (y3).lt).cell 3
        have b4 := fun v : Sub w3 => ((y3).below v.2 (y3).lt).cell 4
        have b5 := fun v : Sub w3 => ((y3).below v.2 (y3).lt).cell 5
        have b6 := fun v : Sub w3 => ((y3).below v.2 (y3).lt).cell 6
        have b7 := fun v : Sub w3 => ((y3).below v.2 (y3).lt).cell 7
        have b8 := fun v : Sub w3 => ((y3).below v.2 (y3).lt).cell 8
        simp only [List.getElem?_toArray, List.getElem?_cons_zero, List.getElem?_cons_succ] at b0 b1 b2 b3 b4 b5 b6 b7 b8
        have hne : Nonempty (Sub w3) := ⟨⟨_, Below.refl _ _⟩⟩
        have HA : Hid (∀ v : Sub w3, Calls Tryd.prog 53 #[.agg #[.int .i64 p, .int .i64 j, .int .i64 t, .int .i64 h, .int .i64 g, .int .i64 q, .int .i64 s, .int .i64 cp, .slice A n k]] v.1 fun e w' => e = .returned (.int .i64 g) ∧ Below v.1.heap.size v.1 w') := Lib.hid (fun v => spanOf_below 4 p j t h g q s cp A n k v.1 (by omega))
        have HC : Hid (∀ v : Sub w3, Calls Tryd.prog 53 #[.agg #[.int .i64 p', .int .i64 j', .int .i64 t', .int .i64 h', .int .i64 g', .int .i64 q', .int .i64 s', .int .i64 cp', .slice A' n' k']] v.1 fun e w' => e = .returned (.int .i64 g') ∧ Below v.1.heap.size v.1 w') := Lib.hid (fun v => spanOf_below 4 p' j' t' h' g' q' s' cp' A' n' k' v.1 (by omega))
        have HW3 := Lib.hid hw3
        have HB3 := Lib.hid (And.intro B3 BB)
        clear hw3 he y2 y3 B3 hT y0 y1 BB
        by_cases hx : g = g'
        case' pos => have d1 : (g != g') = false := by simpa using hx
        case' neg => have d1 : (g != g') = true := by simpa using hx
        all_goals
          have HX := Lib.hid hx
          clear hx
          go_upto_region 4 with fail
          rw [← HW3.out]
          refine region_sub (by kernel_rfl) (by kernel_rfl) ?_
          repeat (first | go_big_quiet_step (((with_reducible (first | exact sub_below (HA.out _) | exact sub_below (HC.out _))))) | quiet_step (((with_reducible (first | exact sub_below (HA.out _) | exact sub_below (HC.out _))))))
          refine wpQuiet_nil ?_
          rintro _ ⟨v, rfl⟩
          go_wp2_with fail
        · go_ret
          have hf : (p == p' && j == j' && t == t' && h == h' && g == g' && q == q' && s == s') = false := by
            rw [Bool.eq_false_iff]
            intro hh
            exact HX.out (sameS_7.2 hh 4 (by omega))
          rw [hf]
          exact ⟨rfl, bnext HB3.out.2 (bnext HB3.out.1 v.2)⟩
        · go_roundw
          case rel =>
            refine ⟨5, by omega, by go_num, Lib.hid (HB.out.trans ((bnext HB3.out.1 v.2).mono HB.out.size)), Lib.hid (fun i hi => ?_)⟩
            rcases (by omega : i < 4 ∨ i = 4) with hi | rfl
            · exact HS.out i hi
            · exact HX.out
          case measure => simp [intOf]
      · obtain ⟨nm, hnm⟩ : ∃ nm, nm = nmS 5 := ⟨_, rfl⟩
        obtain ⟨ls, hls⟩ : ∃ ls, ls = lstS 5 := ⟨_, rfl⟩
        have a0 : wr.cell? ⟨bT, 15, none⟩ = some (.string nm) := by
          rw [hT.cell]
          have q0 := (tabS_at 7 5 (by omega)).1
          rw [if_pos (by omega)] at q0
          rw [hnm]
          exact q0
        have a1 : wr.cell? ⟨bT, 15 + 1, none⟩ = some (.int .i64 ls) := by
          rw [hT.cell, hls]
          exact (tabS_at 7 5 (by omega)).2.1
        have a2 : wr.cell? ⟨bT, 15 + 2, none⟩ = some (.func (.func 54) #[] #[]) := by
          rw [hT.cell]
          exact (tabS_at 7 5 (by omega)).2.2
        simp only [Nat.reduceAdd] at a1 a2
        clear hnm hls
        have he := Blk.new wr 73 #[.string nm, .int .i64 ls, .func (.func 54) #[] #[]]
        have y2 := y0.alloc (.cells #[.string nm, .int .i64 ls, .func (.func 54) #[] #[]] 73)
        have y3 := y1.alloc (.cells #[.string nm, .int .i64 ls, .func (.func 54) #[] #[]] 73)
        have B3 := balloc (Below.refl wr.heap.size wr) (.cells #[.string nm, .int .i64 ls, .func (.func 54) #[] #[]] 73)
        obtain ⟨w3, hw3⟩ : ∃ w3, w3 = wr.alloc (.cells #[.string nm, .int .i64 ls, .func (.func 54) #[] #[]] 73) := ⟨_, rfl⟩
        rw [← hw3] at he y2 y3 B3
        have e0 := fun v : Sub w3 => ((he).below v.2 (he).lt).cell 0
        have e1 := fun v : Sub w3 => ((he).below v.2 (he).lt).cell 1
        have e2 := fun v : Sub w3 => ((he).below v.2 (he).lt).cell 2
        simp only [List.getElem?_toArray, List.getElem?_cons_zero, List.getElem?_cons_succ] at e0 e1 e2
        have a0 := fun v : Sub w3 => ((y2).below v.2 (y2).lt).cell 0
        have a1 := fun v : Sub w3 => ((y2).below v.2 (y2).lt).cell 1
        have a2 := fun v : Sub w3 => ((y2).below v.2 (y2).lt).cell 2
        have a3 := fun v : Sub w3 => ((y2).below v.2 (y2).lt).cell 3
        have a4 := fun v : Sub w3 => ((y2).below v.2 (y2).lt).cell 4
        have a5 := fun v : Sub w3 => ((y2).below v.2 (y2).lt).cell 5
        have a6 := fun v : Sub w3 => ((y2).below v.2 (y2).lt).cell 6
        have a7 := fun v : Sub w3 => ((y2).below v.2 (y2).lt).cell 7
        have a8 := fun v : Sub w3 => ((y2).below v.2 (y2).lt).cell 8
        simp only [List.getElem?_toArray, List.getElem?_cons_zero, List.getElem?_cons_succ] at a0 a1 a2 a3 a4 a5 a6 a7 a8
        have b0 := fun v : Sub w3 => ((y3).below v.2 (y3).lt).cell 0
        have b1 := fun v : Sub w3 => ((y3).below v.2 (y3).lt).cell 1
        have b2 := fun v : Sub w3 => ((y3).below v.2 (y3).lt).cell 2
        have b3 := fun v : Sub w3 => ((y3).below v.2 (y3).lt).cell 3
        have b4 := fun v : Sub w3 => ((y3).below v.2 (y3).lt).cell 4
        have b5 := fun v : Sub w3 => ((y3).below v.2 (y3).lt).cell 5
        have b6 := fun v : Sub w3 => ((y3).below v.2 (y3).lt).cell 6
        have b7 := fun v : Sub w3 => ((y3).below v.2 (y3).lt).cell 7
        have b8 := fun v : Sub w3 => ((y3).below v.2 (y3).lt).cell 8
        simp only [List.getElem?_toArray, List.getElem?_cons_zero, List.getElem?_cons_succ] at b0 b1 b2 b3 b4 b5 b6 b7 b8
        have hne : Nonempty (Sub w3) := ⟨⟨_, Below.refl _ _⟩⟩
        have HA : Hid (∀ v : Sub w3, Calls Tryd.prog 54 #[.agg #[.int .i64 p, .int .i64 j, .int .i64 t, .int .i64 h, .int .i64 g, .int .i64 q, .int .i64 s, .int .i64 cp, .slice A n k]] v.1 fun e w' => e = .returned (.int .i64 q) ∧ Below v.1.heap.size v.1 w') := Lib.hid (fun v => spanOf_below 5 p j t h g q s cp A n k v.1 (by omega))
        have HC : Hid (∀ v : Sub w3, Calls Tryd.prog 54 #[.agg #[.int .i64 p', .int .i64 j', .int .i64 t', .int .i64 h', .int .i64 g', .int .i64 q', .int .i64 s', .int .i64 cp', .slice A' n' k']] v.1 fun e w' => e = .returned (.int .i64 q') ∧ Below v.1.heap.size v.1 w') := Lib.hid (fun v => spanOf_below 5 p' j' t' h' g' q' s' cp' A' n' k' v.1 (by omega))
        have HW3 := Lib.hid hw3
        have HB3 := Lib.hid (And.intro B3 BB)
        clear hw3 he y2 y3 B3 hT y0 y1 BB
        by_cases hx : q = q'
        case' pos => have d1 : (q != q') = false := by simpa using hx
        case' neg => have d1 : (q != q') = true := by simpa using hx
        all_goals
          have HX := Lib.hid hx
          clear hx
          go_upto_region 4 with fail
          rw [← HW3.out]
          refine region_sub (by kernel_rfl) (by kernel_rfl) ?_
          repeat (first | go_big_quiet_step (((with_reducible (first | exact sub_below (HA.out _) | exact sub_below (HC.out _))))) | quiet_step (((with_reducible (first | exact sub_below (HA.out _) | exact sub_below (HC.out _))))))
          refine wpQuiet_nil ?_
          rintro _ ⟨v, rfl⟩
          go_wp2_with fail
        · go_ret
          have hf : (p == p' && j == j' && t == t' && h == h' && g == g' && q == q' && s == s') = false := by
            rw [Bool.eq_false_iff]
            intro hh
            exact HX.out (sameS_7.2 hh 5 (by omega))
          rw [hf]
          exact ⟨rfl, bnext HB3.out.2 (bnext HB3.out.1 v.2)⟩
        · go_roundw
          case rel =>
            refine ⟨6, by omega, by go_num, Lib.hid (HB.out.trans ((bnext HB3.out.1 v.2).mono HB.out.size)), Lib.hid (fun i hi => ?_)⟩
            rcases (by omega : i < 5 ∨ i = 5) with hi | rfl
            · exact HS.out i hi
            · exact HX.out
          case measure => simp [intOf]
      · obtain ⟨nm, hnm⟩ : ∃ nm, nm = nmS 6 := ⟨_, rfl⟩
        obtain ⟨ls, hls⟩ : ∃ ls, ls = lstS 6 := ⟨_, rfl⟩
        have a0 : wr.cell? ⟨bT, 18, none⟩ = some (.string nm) := by
          rw [hT.cell]
          have q0 := (tabS_at 7 6 (by omega)).1
          rw [if_pos (by omega)] at q0
          rw [hnm]
          exact q0
        have a1 : wr.cell? ⟨bT, 18 + 1, none⟩ = some (.int .i64 ls) := by
          rw [hT.cell, hls]
          exact (tabS_at 7 6 (by omega)).2.1
        have a2 : wr.cell? ⟨bT, 18 + 2, none⟩ = some (.func (.func 55) #[] #[]) := by
          rw [hT.cell]
          exact (tabS_at 7 6 (by omega)).2.2
        simp only [Nat.reduceAdd] at a1 a2
        clear hnm hls
        have he := Blk.new wr 73 #[.string nm, .int .i64 ls, .func (.func 55) #[] #[]]
        have y2 := y0.alloc (.cells #[.string nm, .int .i64 ls, .func (.func 55) #[] #[]] 73)
        have y3 := y1.alloc (.cells #[.string nm, .int .i64 ls, .func (.func 55) #[] #[]] 73)
        have B3 := balloc (Below.refl wr.heap.size wr) (.cells #[.string nm, .int .i64 ls, .func (.func 55) #[] #[]] 73)
        obtain ⟨w3, hw3⟩ : ∃ w3, w3 = wr.alloc (.cells #[.string nm, .int .i64 ls, .func (.func 55) #[] #[]] 73) := ⟨_, rfl⟩
        rw [← hw3] at he y2 y3 B3
        have e0 := fun v : Sub w3 => ((he).below v.2 (he).lt).cell 0
        have e1 := fun v : Sub w3 => ((he).below v.2 (he).lt).cell 1
        have e2 := fun v : Sub w3 => ((he).below v.2 (he).lt).cell 2
        simp only [List.getElem?_toArray, List.getElem?_cons_zero, List.getElem?_cons_succ] at e0 e1 e2
        have a0 := fun v : Sub w3 => ((y2).below v.2 (y2).lt).cell 0
        have a1 := fun v : Sub w3 => ((y2).below v.2 (y2).lt).cell 1
        have a2 := fun v : Sub w3 => ((y2).below v.2 (y2).lt).cell 2
        have a3 := fun v : Sub w3 => ((y2).below v.2 (y2).lt).cell 3
        have a4 := fun v : Sub w3 => ((y2).below v.2 (y2).lt).cell 4
        have a5 := fun v : Sub w3 => ((y2).below v.2 (y2).lt).cell 5
        have a6 := fun v : Sub w3 => ((y2).below v.2 (y2).lt).cell 6
        have a7 := fun v : Sub w3 => ((y2).below v.2 (y2).lt).cell 7
        have a8 := fun v : Sub w3 => ((y2).below v.2 (y2).lt).cell 8
        simp only [List.getElem?_toArray, List.getElem?_cons_zero, List.getElem?_cons_succ] at a0 a1 a2 a3 a4 a5 a6 a7 a8
        have b0 := fun v : Sub w3 => ((y3).below v.2 (y3).lt).cell 0
        have b1 := fun v : Sub w3 => ((y3).below v.2 (y3).lt).cell 1
        have b2 := fun v : Sub w3 => ((y3).below v.2 (y3).lt).cell 2
        have b3 := fun v : Sub w3 => ((y3).below v.2 (y3).lt).cell 3
        have b4 := fun v : Sub w3 => ((y3).below v.2 (y3).lt).cell 4
        have b5 := fun v : Sub w3 => ((y3).below v.2 (y3).lt).cell 5
        have b6 := fun v : Sub w3 => ((y3).below v.2 (y3).lt).cell 6
        have b7 := fun v : Sub w3 => ((y3).below v.2 (y3).lt).cell 7
        have b8 := fun v : Sub w3 => ((y3).below v.2 (y3).lt).cell 8
        simp only [List.getElem?_toArray, List.getElem?_cons_zero, List.getElem?_cons_succ] at b0 b1 b2 b3 b4 b5 b6 b7 b8
        have hne : Nonempty (Sub w3) := ⟨⟨_, Below.refl _ _⟩⟩
        have HA : Hid (∀ v : Sub w3, Calls Tryd.prog 55 #[.agg #[.int .i64 p, .int .i64 j, .int .i64 t, .int .i64 h, .int .i64 g, .int .i64 q, .int .i64 s, .int .i64 cp, .slice A n k]] v.1 fun e w' => e = .returned (.int .i64 s) ∧ Below v.1.heap.size v.1 w') := Lib.hid (fun v => spanOf_below 6 p j t h g q s cp A n k v.1 (by omega))
        have HC : Hid (∀ v : Sub w3, Calls Tryd.prog 55 #[.agg #[.int .i64 p', .int .i64 j', .int .i64 t', .int .i64 h', .int .i64 g', .int .i64 q', .int .i64 s', .int .i64 cp', .slice A' n' k']] v.1 fun e w' => e = .returned (.int .i64 s') ∧ Below v.1.heap.size v.1 w') := Lib.hid (fun v => spanOf_below 6 p' j' t' h' g' q' s' cp' A' n' k' v.1 (by omega))
        have HW3 := Lib.hid hw3
        have HB3 := Lib.hid (And.intro B3 BB)
        clear hw3 he y2 y3 B3 hT y0 y1 BB
        by_cases hx : s = s'
        case' pos => have d1 : (s != s') = false := by simpa using hx
        case' neg => have d1 : (s != s') = true := by simpa using hx
        all_goals
          have HX := Lib.hid hx
          clear hx
          go_upto_region 4 with fail
          rw [← HW3.out]
          refine region_sub (by kernel_rfl) (by kernel_rfl) ?_
          repeat (first | go_big_quiet_step (((with_reducible (first | exact sub_below (HA.out _) | exact sub_below (HC.out _))))) | quiet_step (((with_reducible (first | exact sub_below (HA.out _) | exact sub_below (HC.out _))))))
          refine wpQuiet_nil ?_
          rintro _ ⟨v, rfl⟩
          go_wp2_with fail
        · go_ret
          have hf : (p == p' && j == j' && t == t' && h == h' && g == g' && q == q' && s == s') = false := by
            rw [Bool.eq_false_iff]
            intro hh
            exact HX.out (sameS_7.2 hh 6 (by omega))
          rw [hf]
          exact ⟨rfl, bnext HB3.out.2 (bnext HB3.out.1 v.2)⟩
        · go_roundw
          case rel =>
            refine ⟨7, by omega, by go_num, Lib.hid (HB.out.trans ((bnext HB3.out.1 v.2).mono HB.out.size)), Lib.hid (fun i hi => ?_)⟩
            rcases (by omega : i < 6 ∨ i = 6) with hi | rfl
            · exact HS.out i hi
            · exact HX.out
          case measure => simp [intOf]
end Go.Proofs.YtcinggnhfgkahaaDoor
