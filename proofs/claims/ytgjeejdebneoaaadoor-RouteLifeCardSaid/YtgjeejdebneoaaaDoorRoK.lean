/- RouteLife: the walk. -/
import Derived.Test.YtgjeejdebneoaaaDoorRoI
import Derived.Test.YtgjeejdebneoaaaDoorRngQ
namespace Go.Proofs.YtgjeejdebneoaaaDoor
set_option linter.unusedVariables false
set_option linter.unusedSimpArgs false
open Go.RowKit Go.Shelf
attribute [local go_sem] Oper.semAt_some
set_option maxRecDepth 100000

set_option maxHeartbeats 16000000 in
theorem routelife_walk (p j t h g q s cp : Int) (A : Option Addr) (n k B : Nat) (l : List (Nat × Int)) (hn : l.length = n) (a : Nat) (m st me lo fa : Int) (nx : Nat) (du : Int) (ch : Bool) (many : Int) (w : World) (hr : Rd w B A (plC l)) (hB : B ≤ w.heap.size) (hnk : n ≤ k) (hk : k ≤ 9223372036854775807) (hl : ∀ x ∈ l, x.1 < 4294967296) (hw : CapsAt w) (ha : a < 4294967296) (hx : nx < 4294967296) :
    Calls Tryd.prog 4 #[.agg #[.int .i64 p, .int .i64 j, .int .i64 t, .int .i64 h, .int .i64 g, .int .i64 q, .int .i64 s, .int .i64 cp, .slice A n k], .agg #[.int .u32 a, .int .i64 m, .int .i64 st, .int .i64 me, .int .i64 lo, .int .i64 fa, .int .u32 nx, .int .i64 du, .bool ch], .int .i64 many] w fun e w' => e = .returned (.bool true) ∧ Below w.heap.size w w' := by
  have HF := Lib.hid (fun W => few11_any p j t h g q s cp A n k W)
  have HWK := Lib.hid (fun W (hW : Below w.heap.size w W) => works11_any W (hw.below hW))
  have HL := Lib.hid (fun W (hW : Below w.heap.size w W) => life_any p j t h g q s cp A n k B l hn a m st me lo fa nx du ch W (hr.below (hW.mono hB)) (by have := hW.size; omega) hnk hk hl (hw.below hW) ha hx)
  have HM := Lib.hid (fun W (hW : Below w.heap.size w W) => rlife_any p j t h g q s cp A n k B l hn a m st me lo fa nx du ch W (hr.below (hW.mono hB)) (by have := hW.size; omega) hnk hk hl ha hx)
  have hys3 := lifeS_len h g (okC p j t h g q s cp l) 3 ⟨a, m, st, me, lo, fa, nx, du, ch⟩
  clear hr hl hw hn ha hx hB
  generalize lifeS h g (okC p j t h g q s cp l) 3 ⟨a, m, st, me, lo, fa, nx, du, ch⟩ = ys at *
  have HYL := Lib.hid hys3
  clear hys3
  have yc := (((Blk.new w 24 #[.int .i64 p, .int .i64 j, .int .i64 t, .int .i64 h, .int .i64 g, .int .i64 q, .int .i64 s, .int .i64 cp, .slice A n k]).alloc (.cells #[.int .u32 a, .int .i64 m, .int .i64 st, .int .i64 me, .int .i64 lo, .int .i64 fa, .int .u32 nx, .int .i64 du, .bool ch] 31)).alloc (.cells #[.int .i64 many] 3)).alloc (.cells #[.bool false] 4)
  have yr := ((Blk.new (w.alloc (.cells #[.int .i64 p, .int .i64 j, .int .i64 t, .int .i64 h, .int .i64 g, .int .i64 q, .int .i64 s, .int .i64 cp, .slice A n k] 24)) 31 #[.int .u32 a, .int .i64 m, .int .i64 st, .int .i64 me, .int .i64 lo, .int .i64 fa, .int .u32 nx, .int .i64 du, .bool ch]).alloc (.cells #[.int .i64 many] 3)).alloc (.cells #[.bool false] 4)
  have z1 := (Boxed.new ((w.alloc (.cells #[.int .i64 p, .int .i64 j, .int .i64 t, .int .i64 h, .int .i64 g, .int .i64 q, .int .i64 s, .int .i64 cp, .slice A n k] 24)).alloc (.cells #[.int .u32 a, .int .i64 m, .int .i64 st, .int .i64 me, .int .i64 lo, .int .i64 fa, .int .u32 nx, .int .i64 du, .bool ch] 31)) 3 (.int .i64 many)).alloc (.cells #[.bool false] 4)
  have z2 := Boxed.new (((w.alloc (.cells #[.int .i64 p, .int .i64 j, .int .i64 t, .int .i64 h, .int .i64 g, .int .i64 q, .int .i64 s, .int .i64 cp, .slice A n k] 24)).alloc (.cells #[.int .u32 a, .int .i64 m, .int .i64 st, .int .i64 me, .int .i64 lo, .int .i64 fa, .int .u32 nx, .int .i64 du, .bool ch] 31)).alloc (.cells #[.int .i64 many] 3)) 4 (.bool false)
  simp only [World.size_alloc] at yr z1 z2
  have B0 : Below w.heap.size w ((((w.alloc (.cells #[.int .i64 p, .int .i64 j, .int .i64 t, .int .i64 h, .int .i64 g, .int .i64 q, .int .i64 s, .int .i64 cp, .slice A n k] 24)).alloc (.cells #[.int .u32 a, .int .i64 m, .int .i64 st, .int .i64 me, .int .i64 lo, .int .i64 fa, .int .u32 nx, .int .i64 du, .bool ch] 31)).alloc (.cells #[.int .i64 many] 3)).alloc (.cells #[.bool false] 4)) := balloc (balloc (balloc (balloc (Below.refl _ _) _) _) _) _
  have Z := Lib.hid (And.intro yc (And.intro yr (And.intro z1 (And.intro z2 B0))))
  clear yc yr z1 z2 B0
  by_cases h20 : n ≤ 20
  case neg =>
    go_enter Tryd.func4, Tryd.ntmps4
    go_wp2_with fail
    refine (HF.out _).mono ?_
    rintro e w1 ⟨rfl, b1⟩
    rw [decide_eq_false (by omega : ¬ (n : Int) ≤ 20)]
    have BB := bnext Z.out.2.2.2.2 b1
    have HB := Lib.hid (boxed_below Z.out.2.2.2.1 b1 Z.out.2.2.2.1.lt)
    clear b1
    go_wp2_with fail
    refine (HWK.out _ BB).mono ?_
    rintro e w2 ⟨rfl, b2⟩
    have hB2 := boxed_below HB.out b2 HB.out.lt
    have c1 := hB2.cell
    have f1 := hB2.frozen
    have d1 := (hB2.set (.bool true)).cell
    have bz := bnext BB b2
    go_wp2_with fail
    refine bodyPost_ret (v := .bool true) (by simp [results, Tryd.results4, go_sem, d1]) rfl ⟨rfl, ?_⟩
    exact bz.setCell (p := ⟨w.heap.size + 1 + 1 + 1, 0, none⟩) (by show w.heap.size ≤ w.heap.size + 1 + 1 + 1; omega) _
  case pos =>
    have hm300 : ys.length ≤ 3 := HYL.out
    have hfn : ∀ (lb : Array Value) (w : World), (binOp .eql 46 (.func (.func 39) #[] lb) .nilFunc).run Tryd.prog w = .ok (.bool false) w := fun _ _ => rfl
    refine (callsIn_wide (n := 6)).1 ?_
    refine callsIn_of_wp_marks Tryd.func4 rfl trivial ?_ rfl
    simp only [Tryd.ntmps4, List.size_toArray, List.length_cons, List.length_nil, Nat.reduceAdd, Nat.reduceSub, Array.replicate_succ, Array.replicate_zero, List.push_toArray, List.append_toArray, List.nil_append, List.cons_append]
    gi_wp2_with fail
    refine ⟨trivial, ?_⟩
    refine (callsIn_wide.2 (HF.out _)).mono ?_
    rintro e w0 ⟨rfl, b0⟩
    rw [decide_eq_true (by omega : (n : Int) ≤ 20)]
    obtain ⟨yc, yr, z1, z2, B0⟩ := Z.out
    replace yc := yc.below b0 yc.lt
    replace yr := yr.below b0 yr.lt
    replace z1 := boxed_below z1 b0 z1.lt
    replace z2 := boxed_below z2 b0 z2.lt
    replace B0 := bnext B0 b0
    have k0 := (yc).cell 0
    have k1 := (yc).cell 1
    have k2 := (yc).cell 2
    have k3 := (yc).cell 3
    have k4 := (yc).cell 4
    have k5 := (yc).cell 5
    have k6 := (yc).cell 6
    have k7 := (yc).cell 7
    have k8 := (yc).cell 8
    simp only [List.getElem?_toArray, List.getElem?_cons_zero, List.getElem?_cons_succ] at k0 k1 k2 k3 k4 k5 k6 k7 k8
    have c0 := (yr).cell 0
    have c1 := (yr).cell 1
    have c2 := (yr).cell 2
    have c3 := (yr).cell 3
    have c4 := (yr).cell 4
    have c5 := (yr).cell 5
    have c6 := (yr).cell 6
    have c7 := (yr).cell 7
    have c8 := (yr).cell 8
    simp only [List.getElem?_toArray, List.getElem?_cons_zero, List.getElem?_cons_succ] at c0 c1 c2 c3 c4 c5 c6 c7 c8
    have HM1 := Lib.hid (HM.out _ B0)
    have Z2 := Lib.hid (And.intro yc (And.intro yr (And.intro z1 (And.intro z2 B0))))
    clear yc yr z1 z2 B0 b0 Z h20
    gi_wp2_with fail
    refine ⟨trivial, ?_⟩
    refine (callsIn_wide.2 HM1.out).mono ?_
    rintro e w1 ⟨A', c', rfl, hvc, hvm, hvr, b1⟩
    obtain ⟨yc, yr, z1, z2, B0⟩ := Z2.out
    replace yc := (yc.below b1 yc.lt).alloc (.cells #[.slice A' ys.length c'] 43)
    replace yr := (yr.below b1 yr.lt).alloc (.cells #[.slice A' ys.length c'] 43)
    have y1 := (boxed_below z1 b1 z1.lt).alloc (.cells #[.slice A' ys.length c'] 43)
    have y2 := (boxed_below z2 b1 z2.lt).alloc (.cells #[.slice A' ys.length c'] 43)
    have y3 := Boxed.new w1 43 (.slice A' ys.length c')
    have hvr1 := hvr.alloc (Nat.le_refl _) (.cells #[.slice A' ys.length c'] 43)
    have b1' := balloc (bnext B0 b1) (.cells #[.slice A' ys.length c'] 43)
    have hsz1 : w.heap.size + 1 + 1 + 1 < w1.heap.size := by have := b1.size; have := z2.lt; omega
    clear c0 c1 c2 c3 c4 c5 c6 c7 c8 k0 k1 k2 k3 k4 k5 k6 k7 k8
    have k0 := (yc).cell 0
    have k1 := (yc).cell 1
    have k2 := (yc).cell 2
    have k3 := (yc).cell 3
    have k4 := (yc).cell 4
    have k5 := (yc).cell 5
    have k6 := (yc).cell 6
    have k7 := (yc).cell 7
    have k8 := (yc).cell 8
    simp only [List.getElem?_toArray, List.getElem?_cons_zero, List.getElem?_cons_succ] at k0 k1 k2 k3 k4 k5 k6 k7 k8
    have c0 := (yr).cell 0
    have c1 := (yr).cell 1
    have c2 := (yr).cell 2
    have c3 := (yr).cell 3
    have c4 := (yr).cell 4
    have c5 := (yr).cell 5
    have c6 := (yr).cell 6
    have c7 := (yr).cell 7
    have c8 := (yr).cell 8
    simp only [List.getElem?_toArray, List.getElem?_cons_zero, List.getElem?_cons_succ] at c0 c1 c2 c3 c4 c5 c6 c7 c8
    have HE := Lib.hid (HL.out _ b1')
    have Y := Lib.hid (And.intro y1 (And.intro y2 (And.intro y3 (And.intro hvr1 b1'))))
    clear y1 y2 y3 hvr hvr1 b1 b1' HM HM1 Z2 HL yc yr z1 z2 B0
    gi_wp2_with fail
    refine ⟨trivial, ?_⟩
    refine (callsIn_wide.2 HE.out).mono ?_
    rintro e w2 ⟨lb, rfl, hE, b2⟩
    have hle12 : w1.heap.size + 1 ≤ w2.heap.size := by have := b2.size; simp at this; omega
    have X := Lib.hid (And.intro (boxed_below Y.out.1 b2 Y.out.1.lt) (And.intro (boxed_below Y.out.2.1 b2 Y.out.2.1.lt) (And.intro (boxed_below Y.out.2.2.1 b2 Y.out.2.2.1.lt) (And.intro (((Y.out.2.2.2.1.more (by simp)).below b2).more b2.size) (And.intro (bnext Y.out.2.2.2.2 b2) hE)))))
    clear c0 c1 c2 c3 c4 c5 c6 c7 c8 k0 k1 k2 k3 k4 k5 k6 k7 k8
    clear hE b2 HE Y
    gi_wp2_with fail
    -- the turns
    refine wpIn_loop_rounds 3 ?_
    have bt0 := Boxed.new w2 3 (.int .i64 0)
    have bb0 : Below w2.heap.size w2 (w2.alloc (.cells #[.int .i64 0] 3)) := balloc (Below.refl _ _) _
    generalize hg0 : w2.alloc (.cells #[.int .i64 0] 3) = Wr0 at *
    clear hg0
    rw [roundsIn_succ]
    have ct0 := bt0.cell
    gi_wp2_with fail
    have bn0 := Boxed.new Wr0 3 (.int .i64 0)
    have bl0 : Below w2.heap.size w2 (Wr0.alloc (.cells #[.int .i64 0] 3)) := balloc bb0 _
    have bu0 := bt0.alloc (.cells #[.int .i64 0] 3)
    have hlt0 := bt0.lt
    have hnl0 := bn0.lt
    have hwr0 := bb0.size
    generalize hgn0 : Wr0.alloc (.cells #[.int .i64 0] 3) = Wn0 at *
    generalize hbn0 : Wr0.heap.size = Bn0 at *
    clear hgn0 ct0
    refine wpIn_rangeFunc_ownH rfl (by omega) (gf := 39) (lb := lb) rfl trivial (enters_of Tryd.func39 (by kernel_rfl) rfl)
      (life_stops 5 (by omega) Bn0 ys lb Wn0 HYL.out w2 X.out.2.2.2.2.2 bl0 (by omega) (by omega)) belowK_t (belowK_b (by omega)) (Below.refl _ _) (fun _ => rfl)
      (RI Wn0 Bn0 (fun pre => pre.length = 0 ∨ (pre.length : Int) < many)) (RX Wn0 Bn0 2 (fun pre => 0 < pre.length ∧ many ≤ pre.length ∧ (pre.length = 1 ∨ (pre.length : Int) - 1 < many))) (RI_own hnl0 (Nat.le_refl _)) (RX_own hnl0 (Nat.le_refl _)) ⟨⟨bn0, Below.refl _ _⟩, by simp⟩
      (AxB Bn0 31 (stW ys) ?a10) AxB_own ?assign0 ?body0 ?done0 ?stop0
    case assign0 =>
      rintro lp pre x W K ⟨⟨hn, hbW⟩, hp⟩ hK
      have hnl := hn.lt
      simp only [stE, stW]
      gi_wp2
      obtain ⟨Bx, hBx⟩ : ∃ Bx, W.heap.size = Bx := ⟨_, rfl⟩
      have bX := Blk.new W 31 (stW ys x)
      unfold stW at bX
      rw [hBx] at bX ⊢
      have hK' := hK (?a10 x Bx) _ ((KeepsOthers.alloc _ _).from _) ((Below.refl _ W).alloc (Nat.le_of_lt hnl) _) ⟨⟨hn.alloc _, hbW.alloc (Nat.le_of_lt hnl) _⟩, hp⟩ ⟨Bx, by omega, bX, rfl⟩
      exact hK'
    case body0 =>
      rintro lp pre x a' W hlp _ ⟨⟨hn, hbW⟩, hp⟩ ⟨Bx, hBx, bX, rfl⟩ hlt
      try dsimp only at hp
      have hb2 : Below w2.heap.size w2 W := bl0.trans (hbW.mono (by omega))
      have q1 := (boxed_below X.out.1 hb2 X.out.1.lt).cell
      have z2 := boxed_below X.out.2.1 hb2 X.out.2.1.lt
      have q2 := z2.cell
      have k2 := z2.frozen
      have q3 := (boxed_below X.out.2.2.1 hb2 X.out.2.2.1.lt).cell
      have qt := (boxed_below bu0 hbW (by omega)).cell
      have qn := hn.cell
      have kn := hn.frozen
      unfold stW at bX
      obtain ⟨y, hy⟩ : ∃ y, ys[pre.length]? = some y := ⟨_, List.getElem?_eq_getElem (by exact hlt)⟩
      obtain ⟨b, off, hA, hbB, e0, e1, e2, e3, e4, e5, e6, e7, e8, e9⟩ := st_at (X.out.2.2.2.1.below hb2) hy
      subst hA
      have hHX : x = pre.length → stT ys x = y.1 ∧ stQ ys x = y.2 := by
        rintro rfl
        unfold stT stQ
        rw [List.getD, hy]
        exact ⟨rfl, rfl⟩
      generalize stQ ys x = r1 at *
      obtain ⟨a1, m1, st1, me1, lo1, fa1, nx1, du1, ch1⟩ := r1
      obtain ⟨at2, a2, m2, st2, me2, lo2, fa2, nx2, du2, ch2⟩ := y
      simp only at bX hHX e0 e1 e2 e3 e4 e5 e6 e7 e8 e9
      have mc0 := (bX).cell 0
      have mc1 := (bX).cell 1
      have mc2 := (bX).cell 2
      have mc3 := (bX).cell 3
      have mc4 := (bX).cell 4
      have mc5 := (bX).cell 5
      have mc6 := (bX).cell 6
      have mc7 := (bX).cell 7
      have mc8 := (bX).cell 8
      simp only [List.getElem?_toArray, List.getElem?_cons_zero, List.getElem?_cons_succ] at mc0 mc1 mc2 mc3 mc4 mc5 mc6 mc7 mc8
      have hNE := fun W => ne_turn at2 a2 m2 st2 me2 lo2 fa2 nx2 du2 (stT ys x) a1 m1 st1 me1 lo1 fa1 nx1 du1 ch2 ch1 W
      have hbb : ∃ bb, bb = (!(at2 == stT ys x && (a2 : Int) == a1 && m2 == m1 && st2 == st1 && me2 == me1 && lo2 == lo1 && fa2 == fa1 && (nx2 : Int) == nx1 && du2 == du1 && ch2 == ch1)) := ⟨_, rfl⟩
      obtain ⟨bb, hbb⟩ := hbb
      rw [← hbb] at hNE
      have hHB : x = pre.length → bb = false := fun hq => by
        obtain ⟨z1, z2⟩ := hHX hq
        rw [hbb, z1]
        simp only [Rt.mk.injEq] at z2
        obtain ⟨rfl, rfl, rfl, rfl, rfl, rfl, rfl, rfl, rfl⟩ := z2
        simp
      clear hbb hHX hy
      have hi2 : decide (ys.length ≤ pre.length) = false := by simp; omega
      have hi3 : decide ((ys.length : Int) ≤ pre.length) = false := by simp; omega
      have hi4 : (0 : Int) ≤ pre.length ∧ (pre.length : Int) < (ys.length : Int) := by omega
      cases bb
      case false =>
        clear hHB bX
        gi_wp2_with fail
        refine region_round rfl (by kernel_rfl) (by kernel_rfl) (by kernel_rfl) ?_
        repeat (gi_big_quiet_step (fail))
        refine wpQuietIn_nil ?_
        rintro _ ⟨nq, rfl⟩
        have KQ : KeepsFrom Wn0.heap.size W (W.drewN nq) := keeps_below (below_drewN (Below.refl _ _) nq)
        have BQ : Below Bn0 W (W.drewN nq) := below_drewN (Below.refl _ _) nq
        replace hn : Boxed (W.drewN nq) Bn0 3 (.int .i64 pre.length) := hn
        have q1' : (W.drewN nq).cell? ⟨w.heap.size + 1 + 1, 0, none⟩ = some (.int .i64 many) := q1
        have qt' : (W.drewN nq).cell? ⟨(w2.heap.size), 0, none⟩ = some (.int .i64 0) := qt
        have qn' := hn.cell
        have kn' := hn.frozen
        have hbW' : Below Bn0 Wn0 (W.drewN nq) := hbW.trans BQ
        clear hNE mc0 mc1 mc2 mc3 mc4 mc5 mc6 mc7 mc8 e0 e1 e2 e3 e4 e5 e6 e7 e8 e9 q1 q2 k2 q3 qt qn kn z2 hb2 hi2 hi3 hi4
        generalize W.drewN nq = Wq at *
        have hIn : Boxed (Wq.setCell ⟨Bn0, 0, none⟩ (.int .i64 (pre ++ [x]).length)) Bn0 3 (.int .i64 (pre ++ [x]).length) := hn.set _
        have hBn : Below Bn0 Wn0 (Wq.setCell ⟨Bn0, 0, none⟩ (.int .i64 (pre ++ [x]).length)) := hbW'.setCell (p := ⟨Bn0, 0, none⟩) (Nat.le_refl _) _
        simp only [List.length_append, List.length_singleton, Int.natCast_add, Int.natCast_one] at hIn hBn
        have qn2 := hIn.cell
        have HIN := Lib.hid hIn
        have HBN := Lib.hid hBn
        clear hIn hBn
        have KF : KeepsFrom Wn0.heap.size W (Wq.setCell ⟨Bn0, 0, none⟩ (.int .i64 ((pre.length : Int) + 1))) := KQ.trans ((KeepsOthers.setCell _ _ _).from _)
        have KS : Below Bn0 Wq (Wq.setCell ⟨Bn0, 0, none⟩ (.int .i64 ((pre.length : Int) + 1))) := (Below.refl Bn0 Wq).setCell (p := ⟨Bn0, 0, none⟩) (Nat.le_refl _) _
        have KB : Below Bn0 W (Wq.setCell ⟨Bn0, 0, none⟩ (.int .i64 ((pre.length : Int) + 1))) := BQ.trans KS
        have qt2 : (Wq.setCell ⟨Bn0, 0, none⟩ (.int .i64 ((pre.length : Int) + 1))).cell? ⟨(w2.heap.size), 0, none⟩ = some (.int .i64 0) := (KS.cell (p := ⟨(w2.heap.size), 0, none⟩) (by show (w2.heap.size) < _; omega)).trans qt'
        have qm2 : (Wq.setCell ⟨Bn0, 0, none⟩ (.int .i64 ((pre.length : Int) + 1))).cell? ⟨w.heap.size + 1 + 1, 0, none⟩ = some (.int .i64 many) := (KS.cell (p := ⟨w.heap.size + 1 + 1, 0, none⟩) (by show w.heap.size + 1 + 1 < _; omega)).trans q1'
        by_cases hmany : many ≤ (pre.length : Int) + 1
        · gi_wp2
          exact ⟨KF, .inr ⟨rfl, ⟨by simpa using HIN.out, by simpa using HBN.out⟩, by have := len_snoc pre x; dsimp only; omega⟩⟩
        · gi_wp2
          exact ⟨KF, KB, ⟨by simpa using HIN.out, by simpa using HBN.out⟩, by have := len_snoc pre x; dsimp only; omega⟩
      case true =>
        have HNX := Lib.hid (show ¬ x = pre.length from fun hq => absurd (hHB hq) (by decide))
        clear hHB bX
        gi_wp2_with fail
        refine region_round rfl (by kernel_rfl) (by kernel_rfl) (by kernel_rfl) ?_
        repeat (gi_big_quiet_step (fail))
        refine wpQuietIn_nil ?_
        rintro _ ⟨nq, rfl⟩
        have q2' : (W.drewN nq).cell? ⟨w.heap.size + 1 + 1 + 1, 0, none⟩ = some (.bool false) := q2
        have k2' : (W.drewN nq).frozen? ⟨w.heap.size + 1 + 1 + 1, 0, none⟩ = false := k2
        gi_wp2
        exact ⟨(keeps_below (below_drewN (Below.refl _ _) nq)).trans ((KeepsOthers.setCell _ _ _).from _), .inl ⟨rfl, fun h => HNX.out (range_last h).1⟩⟩
    case done0 =>
      rintro D0 ys Wm hD0 rfl ⟨⟨hn, hbW⟩, hp⟩ hK0
      simp only [List.length_range] at hn hp
      have hmm : min (ys.length : Int) (max 1 many) = (ys.length : Nat) := by omega
      generalize hcnt : (ys.length) = cnt at hn
      have hcnt0 : (cnt : Int) = min (ys.length : Int) (max 1 many) := by omega
      clear hcnt hmm hp
      have hb2 : Below w2.heap.size w2 Wm := bl0.trans (hbW.mono (by omega))
      have q1 := (boxed_below X.out.1 hb2 X.out.1.lt).cell
      have q3 := (boxed_below X.out.2.2.1 hb2 X.out.2.2.1.lt).cell
      have qt := (boxed_below bu0 hbW (by omega)).cell
      have qn := hn.cell
      have hc1 : (cnt : Int) ≤ (ys.length : Nat) := by omega
      have hc2 : (cnt : Int) ≤ many ∨ (many ≤ 1 ∧ (cnt : Int) ≤ 1) := by omega
      have hc3 : (ys.length : Int) ≤ cnt ∨ (many ≤ cnt ∧ 1 ≤ (cnt : Int)) := by omega
      have hlD0 : D0 < Wm.heap.size := (Array.getElem?_eq_some_iff.1 hK0).1
      clear hcnt0
      gi_upto_region 18 with (fail)
      gi_cut [75] from 55 (fun s wx => s = .bool false ∧ Wm = wx)
      case first =>
        gi_wp2
        all_goals (gi_meet; case rel => exact ⟨rfl, rfl⟩)
      case rest =>
        obtain ⟨rfl, hwc⟩ := hcut
        subst hwc
        gi_wp2_with fail
        have bt1 := Boxed.new Wm 3 (.int .i64 1)
        have bb1 : Below w2.heap.size w2 (Wm.alloc (.cells #[.int .i64 1] 3)) := balloc hb2 _
        have hK0a : (Wm.alloc (.cells #[.int .i64 1] 3)).heap[D0]? = some (.deferred (some [])) := (Below.heap_alloc Wm _ D0 hlD0).trans hK0
        generalize hg1 : Wm.alloc (.cells #[.int .i64 1] 3) = Wr1 at *
        clear hg1 hK0 q1 q3 qt qn hc1 hc2 hc3
        rw [roundsIn_succ]
        have ct1 := bt1.cell
        gi_wp2_with fail
        have bn1 := Boxed.new Wr1 3 (.int .i64 0)
        have bl1 : Below w2.heap.size w2 (Wr1.alloc (.cells #[.int .i64 0] 3)) := balloc bb1 _
        have hK0n : (Wr1.alloc (.cells #[.int .i64 0] 3)).heap[D0]? = some (.deferred (some [])) := (Below.heap_alloc Wr1 _ D0 (Array.getElem?_eq_some_iff.1 hK0a).1).trans hK0a
        have hlD0n := (Array.getElem?_eq_some_iff.1 hK0a).1
        clear hK0a
        have bu1 := bt1.alloc (.cells #[.int .i64 0] 3)
        have hlt1 := bt1.lt
        have hnl1 := bn1.lt
        have hwr1 := bb1.size
        generalize hgn1 : Wr1.alloc (.cells #[.int .i64 0] 3) = Wn1 at *
        generalize hbn1 : Wr1.heap.size = Bn1 at *
        clear hgn1 ct1
        refine wpIn_rangeFunc_ownH rfl (by omega) (gf := 39) (lb := lb) rfl trivial (enters_of Tryd.func39 (by kernel_rfl) rfl)
          (life_stops 5 (by omega) Bn1 ys lb Wn1 HYL.out w2 X.out.2.2.2.2.2 bl1 (by omega) (by omega)) belowK_t (belowK_b (by omega)) (Below.refl _ _) (fun _ => rfl)
          (RI Wn1 Bn1 (fun _ => True)) (RX Wn1 Bn1 2 (fun _ => False)) (RI_own hnl1 (Nat.le_refl _)) (RX_own hnl1 (Nat.le_refl _)) ⟨⟨bn1, Below.refl _ _⟩, by simp⟩
          (AxB Bn1 31 (stW ys) ?a11) AxB_own ?assign1 ?body1 ?done1 ?stop1
        case assign1 =>
          rintro lp pre x W K ⟨⟨hn, hbW⟩, hp⟩ hK
          have hnl := hn.lt
          simp only [stE, stW]
          gi_wp2
          obtain ⟨Bx, hBx⟩ : ∃ Bx, W.heap.size = Bx := ⟨_, rfl⟩
          have bX := Blk.new W 31 (stW ys x)
          unfold stW at bX
          rw [hBx] at bX ⊢
          have hK' := hK (?a11 x Bx) _ ((KeepsOthers.alloc _ _).from _) ((Below.refl _ W).alloc (Nat.le_of_lt hnl) _) ⟨⟨hn.alloc _, hbW.alloc (Nat.le_of_lt hnl) _⟩, hp⟩ ⟨Bx, by omega, bX, rfl⟩
          exact hK'
        case body1 =>
          rintro lp pre x a' W hlp _ ⟨⟨hn, hbW⟩, hp⟩ ⟨Bx, hBx, bX, rfl⟩ hlt
          try dsimp only at hp
          have hb2 : Below w2.heap.size w2 W := bl1.trans (hbW.mono (by omega))
          have q1 := (boxed_below X.out.1 hb2 X.out.1.lt).cell
          have z2 := boxed_below X.out.2.1 hb2 X.out.2.1.lt
          have q2 := z2.cell
          have k2 := z2.frozen
          have q3 := (boxed_below X.out.2.2.1 hb2 X.out.2.2.1.lt).cell
          have qt := (boxed_below bu1 hbW (by omega)).cell
          have qn := hn.cell
          have kn := hn.frozen
          unfold stW at bX
          obtain ⟨y, hy⟩ : ∃ y, ys[pre.length]? = some y := ⟨_, List.getElem?_eq_getElem (by exact hlt)⟩
          obtain ⟨b, off, hA, hbB, e0, e1, e2, e3, e4, e5, e6, e7, e8, e9⟩ := st_at (X.out.2.2.2.1.below hb2) hy
          subst hA
          have hHX : x = pre.length → stT ys x = y.1 ∧ stQ ys x = y.2 := by
            rintro rfl
            unfold stT stQ
            rw [List.getD, hy]
            exact ⟨rfl, rfl⟩
          generalize stQ ys x = r1 at *
          obtain ⟨a1, m1, st1, me1, lo1, fa1, nx1, du1, ch1⟩ := r1
          obtain ⟨at2, a2, m2, st2, me2, lo2, fa2, nx2, du2, ch2⟩ := y
          simp only at bX hHX e0 e1 e2 e3 e4 e5 e6 e7 e8 e9
          have mc0 := (bX).cell 0
          have mc1 := (bX).cell 1
          have mc2 := (bX).cell 2
          have mc3 := (bX).cell 3
          have mc4 := (bX).cell 4
          have mc5 := (bX).cell 5
          have mc6 := (bX).cell 6
          have mc7 := (bX).cell 7
          have mc8 := (bX).cell 8
          simp only [List.getElem?_toArray, List.getElem?_cons_zero, List.getElem?_cons_succ] at mc0 mc1 mc2 mc3 mc4 mc5 mc6 mc7 mc8
          have hNE := fun W => ne_turn at2 a2 m2 st2 me2 lo2 fa2 nx2 du2 (stT ys x) a1 m1 st1 me1 lo1 fa1 nx1 du1 ch2 ch1 W
          have hbb : ∃ bb, bb = (!(at2 == stT ys x && (a2 : Int) == a1 && m2 == m1 && st2 == st1 && me2 == me1 && lo2 == lo1 && fa2 == fa1 && (nx2 : Int) == nx1 && du2 == du1 && ch2 == ch1)) := ⟨_, rfl⟩
          obtain ⟨bb, hbb⟩ := hbb
          rw [← hbb] at hNE
          have hHB : x = pre.length → bb = false := fun hq => by
            obtain ⟨z1, z2⟩ := hHX hq
            rw [hbb, z1]
            simp only [Rt.mk.injEq] at z2
            obtain ⟨rfl, rfl, rfl, rfl, rfl, rfl, rfl, rfl, rfl⟩ := z2
            simp
          clear hbb hHX hy
          have hi2 : decide (ys.length ≤ pre.length) = false := by simp; omega
          have hi3 : decide ((ys.length : Int) ≤ pre.length) = false := by simp; omega
          have hi4 : (0 : Int) ≤ pre.length ∧ (pre.length : Int) < (ys.length : Int) := by omega
          cases bb
          case false =>
            clear hHB bX
            gi_wp2_with fail
            refine region_round rfl (by kernel_rfl) (by kernel_rfl) (by kernel_rfl) ?_
            repeat (gi_big_quiet_step (fail))
            refine wpQuietIn_nil ?_
            rintro _ ⟨nq, rfl⟩
            have KQ : KeepsFrom Wn1.heap.size W (W.drewN nq) := keeps_below (below_drewN (Below.refl _ _) nq)
            have BQ : Below Bn1 W (W.drewN nq) := below_drewN (Below.refl _ _) nq
            replace hn : Boxed (W.drewN nq) Bn1 3 (.int .i64 pre.length) := hn
            have q1' : (W.drewN nq).cell? ⟨w.heap.size + 1 + 1, 0, none⟩ = some (.int .i64 many) := q1
            have qt' : (W.drewN nq).cell? ⟨(Wm.heap.size), 0, none⟩ = some (.int .i64 1) := qt
            have qn' := hn.cell
            have kn' := hn.frozen
            have hbW' : Below Bn1 Wn1 (W.drewN nq) := hbW.trans BQ
            clear hNE mc0 mc1 mc2 mc3 mc4 mc5 mc6 mc7 mc8 e0 e1 e2 e3 e4 e5 e6 e7 e8 e9 q1 q2 k2 q3 qt qn kn z2 hb2 hi2 hi3 hi4
            generalize W.drewN nq = Wq at *
            have hIn : Boxed (Wq.setCell ⟨Bn1, 0, none⟩ (.int .i64 (pre ++ [x]).length)) Bn1 3 (.int .i64 (pre ++ [x]).length) := hn.set _
            have hBn : Below Bn1 Wn1 (Wq.setCell ⟨Bn1, 0, none⟩ (.int .i64 (pre ++ [x]).length)) := hbW'.setCell (p := ⟨Bn1, 0, none⟩) (Nat.le_refl _) _
            simp only [List.length_append, List.length_singleton, Int.natCast_add, Int.natCast_one] at hIn hBn
            have qn2 := hIn.cell
            have HIN := Lib.hid hIn
            have HBN := Lib.hid hBn
            clear hIn hBn
            have KF : KeepsFrom Wn1.heap.size W (Wq.setCell ⟨Bn1, 0, none⟩ (.int .i64 ((pre.length : Int) + 1))) := KQ.trans ((KeepsOthers.setCell _ _ _).from _)
            have KS : Below Bn1 Wq (Wq.setCell ⟨Bn1, 0, none⟩ (.int .i64 ((pre.length : Int) + 1))) := (Below.refl Bn1 Wq).setCell (p := ⟨Bn1, 0, none⟩) (Nat.le_refl _) _
            have KB : Below Bn1 W (Wq.setCell ⟨Bn1, 0, none⟩ (.int .i64 ((pre.length : Int) + 1))) := BQ.trans KS
            have qt2 : (Wq.setCell ⟨Bn1, 0, none⟩ (.int .i64 ((pre.length : Int) + 1))).cell? ⟨(Wm.heap.size), 0, none⟩ = some (.int .i64 1) := (KS.cell (p := ⟨(Wm.heap.size), 0, none⟩) (by show (Wm.heap.size) < _; omega)).trans qt'
            have qm2 : (Wq.setCell ⟨Bn1, 0, none⟩ (.int .i64 ((pre.length : Int) + 1))).cell? ⟨w.heap.size + 1 + 1, 0, none⟩ = some (.int .i64 many) := (KS.cell (p := ⟨w.heap.size + 1 + 1, 0, none⟩) (by show w.heap.size + 1 + 1 < _; omega)).trans q1'
            gi_wp2
            exact ⟨KF, KB, ⟨by simpa using HIN.out, by simpa using HBN.out⟩, trivial⟩
          case true =>
            have HNX := Lib.hid (show ¬ x = pre.length from fun hq => absurd (hHB hq) (by decide))
            clear hHB bX
            gi_wp2_with fail
            refine region_round rfl (by kernel_rfl) (by kernel_rfl) (by kernel_rfl) ?_
            repeat (gi_big_quiet_step (fail))
            refine wpQuietIn_nil ?_
            rintro _ ⟨nq, rfl⟩
            have q2' : (W.drewN nq).cell? ⟨w.heap.size + 1 + 1 + 1, 0, none⟩ = some (.bool false) := q2
            have k2' : (W.drewN nq).frozen? ⟨w.heap.size + 1 + 1 + 1, 0, none⟩ = false := k2
            gi_wp2
            exact ⟨(keeps_below (below_drewN (Below.refl _ _) nq)).trans ((KeepsOthers.setCell _ _ _).from _), .inl ⟨rfl, fun h => HNX.out (range_last h).1⟩⟩
        case done1 =>
          rintro D1 ys We hD1 rfl ⟨⟨hn, hbW⟩, hp⟩ hK1
          simp only [List.length_range] at hn
          have hb2 : Below w2.heap.size w2 We := bl1.trans (hbW.mono (by omega))
          have q1 := (boxed_below X.out.1 hb2 X.out.1.lt).cell
          have q3 := (boxed_below X.out.2.2.1 hb2 X.out.2.2.1.lt).cell
          have qt := (boxed_below bu1 hbW (by omega)).cell
          have qn := hn.cell
          have hlD1 : D1 < We.heap.size := (Array.getElem?_eq_some_iff.1 hK1).1
          have hK0e : We.heap[D0]? = some (.deferred (some [])) := (hbW.block D0 (by omega)).trans hK0n
          have hne : D0 ≠ D1 := by omega
          clear hK0n
          gi_wp2_with fail
          rw [roundsIn_succ]
          have btf := (Boxed.new We 3 (.int .i64 2)).cell
          have bbf : Below We.heap.size We (We.alloc (.cells #[.int .i64 2] 3)) := balloc (Below.refl _ _) _
          generalize hgf : We.alloc (.cells #[.int .i64 2] 3) = Wf at *
          have hb3 := bnext hb2 bbf
          have HF := Lib.hid (And.intro ((bbf.block D0 (by omega)).trans hK0e) ((bbf.block D1 hlD1).trans hK1))
          have hzf := bbf.size
          clear hgf hK0e hK1
          gi_wp2_with (first | (refine ⟨trivial, ?_⟩; gi_at_call 9; refine (callsIn_wide.2 (HWK.out _ (bnext X.out.2.2.2.2.1 hb3))).mono ?_; rintro e w9 ⟨rfl, b9⟩; have z9 := boxed_below X.out.2.1 (bnext hb3 b9) X.out.2.1.lt; have q9 := z9.cell; have k9 := z9.frozen))
          have K1 : w9.heap[D1]? = some (.deferred (some [])) := (b9.block D1 (by omega)).trans HF.out.2
          have K0 : w9.heap[D0]? = some (.deferred (some [])) := (b9.block D0 (by omega)).trans HF.out.1
          have K1' := (KeepsOthers.setCell w9 ⟨w.heap.size + 1 + 1 + 1, 0, none⟩ (.bool true)).same D1 _ K1 rfl
          have K0' := (KeepsOthers.setCell w9 ⟨w.heap.size + 1 + 1 + 1, 0, none⟩ (.bool true)).same D0 _ K0 rfl
          have r9 := (z9.set (.bool true)).cell
          have b10 : Below w.heap.size w (w9.setCell ⟨w.heap.size + 1 + 1 + 1, 0, none⟩ (.bool true)) := (bnext (bnext X.out.2.2.2.2.1 hb3) b9).setCell (p := ⟨w.heap.size + 1 + 1 + 1, 0, none⟩) (by show w.heap.size ≤ w.heap.size + 1 + 1 + 1; omega) _
          generalize w9.setCell ⟨w.heap.size + 1 + 1 + 1, 0, none⟩ (.bool true) = wz at *
          have K0'' : (wz.putObj D1 (.deferred none)).heap[D0]? = some (.deferred (some [])) := by rw [World.putObj_heap_other hne]; exact K0'
          have r10 := cell_kept r9 (grownBy_putObj' _ D1 (.deferred none)) (fun r e => by cases e; exact ⟨_, K1', rfl⟩)
          have r11 := cell_kept r10 (grownBy_putObj' _ D0 (.deferred none)) (fun r e => by cases e; exact ⟨_, K0'', rfl⟩)
          refine ⟨by simp, .inl ⟨_, _, rfl, run_takeDeferred K1', ?_⟩⟩
          refine ⟨by simp, .inl ⟨_, _, rfl, run_takeDeferred K0'', ?_⟩⟩
          refine ⟨.bool true, by simp [results, Tryd.f4, go_sem, r11], rfl, ?_⟩
          exact (b10.trans (belowK_b (w := w) (Nat.le_refl _) _ D1 _ _ (by omega) K1' rfl rfl)).trans (belowK_b (w := w) (Nat.le_refl _) _ D0 _ _ (by omega) K0'' rfl rfl)
        case stop1 =>
          rintro D1 cc pre We hD1 ⟨jj, hjj, rfl⟩ hX hK1
          rcases hX with ⟨_, h⟩ | ⟨_, _, hp⟩
          · exact (h (by simp)).elim
          · exact hp.elim
    case stop0 =>
      rintro D0 cc pre Wm hD0 ⟨jj, hjj, rfl⟩ hX hK0
      rcases hX with ⟨_, h⟩ | ⟨rfl, ⟨hn, hbW⟩, hp⟩
      · exact (h (by simp)).elim
      simp only [List.length_range] at hn hp
      have hcnt0 : (jj : Int) = min (ys.length : Int) (max 1 many) := by omega
      obtain ⟨cnt, rfl⟩ : ∃ cnt, cnt = jj := ⟨_, rfl⟩
      clear hp hjj
      have hb2 : Below w2.heap.size w2 Wm := bl0.trans (hbW.mono (by omega))
      have q1 := (boxed_below X.out.1 hb2 X.out.1.lt).cell
      have q3 := (boxed_below X.out.2.2.1 hb2 X.out.2.2.1.lt).cell
      have qt := (boxed_below bu0 hbW (by omega)).cell
      have qn := hn.cell
      have hc1 : (cnt : Int) ≤ (ys.length : Nat) := by omega
      have hc2 : (cnt : Int) ≤ many ∨ (many ≤ 1 ∧ (cnt : Int) ≤ 1) := by omega
      have hc3 : (ys.length : Int) ≤ cnt ∨ (many ≤ cnt ∧ 1 ≤ (cnt : Int)) := by omega
      have hlD0 : D0 < Wm.heap.size := (Array.getElem?_eq_some_iff.1 hK0).1
      clear hcnt0
      gi_upto_region 18 with (fail)
      gi_cut [75] from 55 (fun s wx => s = .bool false ∧ Wm = wx)
      case first =>
        gi_wp2
        all_goals (gi_meet; case rel => exact ⟨rfl, rfl⟩)
      case rest =>
        obtain ⟨rfl, hwc⟩ := hcut
        subst hwc
        gi_wp2_with fail
        have bt1 := Boxed.new Wm 3 (.int .i64 1)
        have bb1 : Below w2.heap.size w2 (Wm.alloc (.cells #[.int .i64 1] 3)) := balloc hb2 _
        have hK0a : (Wm.alloc (.cells #[.int .i64 1] 3)).heap[D0]? = some (.deferred (some [])) := (Below.heap_alloc Wm _ D0 hlD0).trans hK0
        generalize hg1 : Wm.alloc (.cells #[.int .i64 1] 3) = Wr1 at *
        clear hg1 hK0 q1 q3 qt qn hc1 hc2 hc3
        rw [roundsIn_succ]
        have ct1 := bt1.cell
        gi_wp2_with fail
        have bn1 := Boxed.new Wr1 3 (.int .i64 0)
        have bl1 : Below w2.heap.size w2 (Wr1.alloc (.cells #[.int .i64 0] 3)) := balloc bb1 _
        have hK0n : (Wr1.alloc (.cells #[.int .i64 0] 3)).heap[D0]? = some (.deferred (some [])) := (Below.heap_alloc Wr1 _ D0 (Array.getElem?_eq_some_iff.1 hK0a).1).trans hK0a
        have hlD0n := (Array.getElem?_eq_some_iff.1 hK0a).1
        clear hK0a
        have bu1 := bt1.alloc (.cells #[.int .i64 0] 3)
        have hlt1 := bt1.lt
        have hnl1 := bn1.lt
        have hwr1 := bb1.size
        generalize hgn1 : Wr1.alloc (.cells #[.int .i64 0] 3) = Wn1 at *
        generalize hbn1 : Wr1.heap.size = Bn1 at *
        clear hgn1 ct1
        refine wpIn_rangeFunc_ownH rfl (by omega) (gf := 39) (lb := lb) rfl trivial (enters_of Tryd.func39 (by kernel_rfl) rfl)
          (life_stops 5 (by omega) Bn1 ys lb Wn1 HYL.out w2 X.out.2.2.2.2.2 bl1 (by omega) (by omega)) belowK_t (belowK_b (by omega)) (Below.refl _ _) (fun _ => rfl)
          (RI Wn1 Bn1 (fun _ => True)) (RX Wn1 Bn1 2 (fun _ => False)) (RI_own hnl1 (Nat.le_refl _)) (RX_own hnl1 (Nat.le_refl _)) ⟨⟨bn1, Below.refl _ _⟩, by simp⟩
          (AxB Bn1 31 (stW ys) ?b11) AxB_own ?bssign1 ?bbody1 ?bdone1 ?bstop1
        case bssign1 =>
          rintro lp pre x W K ⟨⟨hn, hbW⟩, hp⟩ hK
          have hnl := hn.lt
          simp only [stE, stW]
          gi_wp2
          obtain ⟨Bx, hBx⟩ : ∃ Bx, W.heap.size = Bx := ⟨_, rfl⟩
          have bX := Blk.new W 31 (stW ys x)
          unfold stW at bX
          rw [hBx] at bX ⊢
          have hK' := hK (?b11 x Bx) _ ((KeepsOthers.alloc _ _).from _) ((Below.refl _ W).alloc (Nat.le_of_lt hnl) _) ⟨⟨hn.alloc _, hbW.alloc (Nat.le_of_lt hnl) _⟩, hp⟩ ⟨Bx, by omega, bX, rfl⟩
          exact hK'
        case bbody1 =>
          rintro lp pre x a' W hlp _ ⟨⟨hn, hbW⟩, hp⟩ ⟨Bx, hBx, bX, rfl⟩ hlt
          try dsimp only at hp
          have hb2 : Below w2.heap.size w2 W := bl1.trans (hbW.mono (by omega))
          have q1 := (boxed_below X.out.1 hb2 X.out.1.lt).cell
          have z2 := boxed_below X.out.2.1 hb2 X.out.2.1.lt
          have q2 := z2.cell
          have k2 := z2.frozen
          have q3 := (boxed_below X.out.2.2.1 hb2 X.out.2.2.1.lt).cell
          have qt := (boxed_below bu1 hbW (by omega)).cell
          have qn := hn.cell
          have kn := hn.frozen
          unfold stW at bX
          obtain ⟨y, hy⟩ : ∃ y, ys[pre.length]? = some y := ⟨_, List.getElem?_eq_getElem (by exact hlt)⟩
          obtain ⟨b, off, hA, hbB, e0, e1, e2, e3, e4, e5, e6, e7, e8, e9⟩ := st_at (X.out.2.2.2.1.below hb2) hy
          subst hA
          have hHX : x = pre.length → stT ys x = y.1 ∧ stQ ys x = y.2 := by
            rintro rfl
            unfold stT stQ
            rw [List.getD, hy]
            exact ⟨rfl, rfl⟩
          generalize stQ ys x = r1 at *
          obtain ⟨a1, m1, st1, me1, lo1, fa1, nx1, du1, ch1⟩ := r1
          obtain ⟨at2, a2, m2, st2, me2, lo2, fa2, nx2, du2, ch2⟩ := y
          simp only at bX hHX e0 e1 e2 e3 e4 e5 e6 e7 e8 e9
          have mc0 := (bX).cell 0
          have mc1 := (bX).cell 1
          have mc2 := (bX).cell 2
          have mc3 := (bX).cell 3
          have mc4 := (bX).cell 4
          have mc5 := (bX).cell 5
          have mc6 := (bX).cell 6
          have mc7 := (bX).cell 7
          have mc8 := (bX).cell 8
          simp only [List.getElem?_toArray, List.getElem?_cons_zero, List.getElem?_cons_succ] at mc0 mc1 mc2 mc3 mc4 mc5 mc6 mc7 mc8
          have hNE := fun W => ne_turn at2 a2 m2 st2 me2 lo2 fa2 nx2 du2 (stT ys x) a1 m1 st1 me1 lo1 fa1 nx1 du1 ch2 ch1 W
          have hbb : ∃ bb, bb = (!(at2 == stT ys x && (a2 : Int) == a1 && m2 == m1 && st2 == st1 && me2 == me1 && lo2 == lo1 && fa2 == fa1 && (nx2 : Int) == nx1 && du2 == du1 && ch2 == ch1)) := ⟨_, rfl⟩
          obtain ⟨bb, hbb⟩ := hbb
          rw [← hbb] at hNE
          have hHB : x = pre.length → bb = false := fun hq => by
            obtain ⟨z1, z2⟩ := hHX hq
            rw [hbb, z1]
            simp only [Rt.mk.injEq] at z2
            obtain ⟨rfl, rfl, rfl, rfl, rfl, rfl, rfl, rfl, rfl⟩ := z2
            simp
          clear hbb hHX hy
          have hi2 : decide (ys.length ≤ pre.length) = false := by simp; omega
          have hi3 : decide ((ys.length : Int) ≤ pre.length) = false := by simp; omega
          have hi4 : (0 : Int) ≤ pre.length ∧ (pre.length : Int) < (ys.length : Int) := by omega
          cases bb
          case false =>
            clear hHB bX
            gi_wp2_with fail
            refine region_round rfl (by kernel_rfl) (by kernel_rfl) (by kernel_rfl) ?_
            repeat (gi_big_quiet_step (fail))
            refine wpQuietIn_nil ?_
            rintro _ ⟨nq, rfl⟩
            have KQ : KeepsFrom Wn1.heap.size W (W.drewN nq) := keeps_below (below_drewN (Below.refl _ _) nq)
            have BQ : Below Bn1 W (W.drewN nq) := below_drewN (Below.refl _ _) nq
            replace hn : Boxed (W.drewN nq) Bn1 3 (.int .i64 pre.length) := hn
            have q1' : (W.drewN nq).cell? ⟨w.heap.size + 1 + 1, 0, none⟩ = some (.int .i64 many) := q1
            have qt' : (W.drewN nq).cell? ⟨(Wm.heap.size), 0, none⟩ = some (.int .i64 1) := qt
            have qn' := hn.cell
            have kn' := hn.frozen
            have hbW' : Below Bn1 Wn1 (W.drewN nq) := hbW.trans BQ
            clear hNE mc0 mc1 mc2 mc3 mc4 mc5 mc6 mc7 mc8 e0 e1 e2 e3 e4 e5 e6 e7 e8 e9 q1 q2 k2 q3 qt qn kn z2 hb2 hi2 hi3 hi4
            generalize W.drewN nq = Wq at *
            have hIn : Boxed (Wq.setCell ⟨Bn1, 0, none⟩ (.int .i64 (pre ++ [x]).length)) Bn1 3 (.int .i64 (pre ++ [x]).length) := hn.set _
            have hBn : Below Bn1 Wn1 (Wq.setCell ⟨Bn1, 0, none⟩ (.int .i64 (pre ++ [x]).length)) := hbW'.setCell (p := ⟨Bn1, 0, none⟩) (Nat.le_refl _) _
            simp only [List.length_append, List.length_singleton, Int.natCast_add, Int.natCast_one] at hIn hBn
            have qn2 := hIn.cell
            have HIN := Lib.hid hIn
            have HBN := Lib.hid hBn
            clear hIn hBn
            have KF : KeepsFrom Wn1.heap.size W (Wq.setCell ⟨Bn1, 0, none⟩ (.int .i64 ((pre.length : Int) + 1))) := KQ.trans ((KeepsOthers.setCell _ _ _).from _)
            have KS : Below Bn1 Wq (Wq.setCell ⟨Bn1, 0, none⟩ (.int .i64 ((pre.length : Int) + 1))) := (Below.refl Bn1 Wq).setCell (p := ⟨Bn1, 0, none⟩) (Nat.le_refl _) _
            have KB : Below Bn1 W (Wq.setCell ⟨Bn1, 0, none⟩ (.int .i64 ((pre.length : Int) + 1))) := BQ.trans KS
            have qt2 : (Wq.setCell ⟨Bn1, 0, none⟩ (.int .i64 ((pre.length : Int) + 1))).cell? ⟨(Wm.heap.size), 0, none⟩ = some (.int .i64 1) := (KS.cell (p := ⟨(Wm.heap.size), 0, none⟩) (by show (Wm.heap.size) < _; omega)).trans qt'
            have qm2 : (Wq.setCell ⟨Bn1, 0, none⟩ (.int .i64 ((pre.length : Int) + 1))).cell? ⟨w.heap.size + 1 + 1, 0, none⟩ = some (.int .i64 many) := (KS.cell (p := ⟨w.heap.size + 1 + 1, 0, none⟩) (by show w.heap.size + 1 + 1 < _; omega)).trans q1'
            gi_wp2
            exact ⟨KF, KB, ⟨by simpa using HIN.out, by simpa using HBN.out⟩, trivial⟩
          case true =>
            have HNX := Lib.hid (show ¬ x = pre.length from fun hq => absurd (hHB hq) (by decide))
            clear hHB bX
            gi_wp2_with fail
            refine region_round rfl (by kernel_rfl) (by kernel_rfl) (by kernel_rfl) ?_
            repeat (gi_big_quiet_step (fail))
            refine wpQuietIn_nil ?_
            rintro _ ⟨nq, rfl⟩
            have q2' : (W.drewN nq).cell? ⟨w.heap.size + 1 + 1 + 1, 0, none⟩ = some (.bool false) := q2
            have k2' : (W.drewN nq).frozen? ⟨w.heap.size + 1 + 1 + 1, 0, none⟩ = false := k2
            gi_wp2
            exact ⟨(keeps_below (below_drewN (Below.refl _ _) nq)).trans ((KeepsOthers.setCell _ _ _).from _), .inl ⟨rfl, fun h => HNX.out (range_last h).1⟩⟩
        case bdone1 =>
          rintro D1 ys We hD1 rfl ⟨⟨hn, hbW⟩, hp⟩ hK1
          simp only [List.length_range] at hn
          have hb2 : Below w2.heap.size w2 We := bl1.trans (hbW.mono (by omega))
          have q1 := (boxed_below X.out.1 hb2 X.out.1.lt).cell
          have q3 := (boxed_below X.out.2.2.1 hb2 X.out.2.2.1.lt).cell
          have qt := (boxed_below bu1 hbW (by omega)).cell
          have qn := hn.cell
          have hlD1 : D1 < We.heap.size := (Array.getElem?_eq_some_iff.1 hK1).1
          have hK0e : We.heap[D0]? = some (.deferred (some [])) := (hbW.block D0 (by omega)).trans hK0n
          have hne : D0 ≠ D1 := by omega
          clear hK0n
          gi_wp2_with fail
          rw [roundsIn_succ]
          have btf := (Boxed.new We 3 (.int .i64 2)).cell
          have bbf : Below We.heap.size We (We.alloc (.cells #[.int .i64 2] 3)) := balloc (Below.refl _ _) _
          generalize hgf : We.alloc (.cells #[.int .i64 2] 3) = Wf at *
          have hb3 := bnext hb2 bbf
          have HF := Lib.hid (And.intro ((bbf.block D0 (by omega)).trans hK0e) ((bbf.block D1 hlD1).trans hK1))
          have hzf := bbf.size
          clear hgf hK0e hK1
          gi_wp2_with (first | (refine ⟨trivial, ?_⟩; gi_at_call 9; refine (callsIn_wide.2 (HWK.out _ (bnext X.out.2.2.2.2.1 hb3))).mono ?_; rintro e w9 ⟨rfl, b9⟩; have z9 := boxed_below X.out.2.1 (bnext hb3 b9) X.out.2.1.lt; have q9 := z9.cell; have k9 := z9.frozen))
          have K1 : w9.heap[D1]? = some (.deferred (some [])) := (b9.block D1 (by omega)).trans HF.out.2
          have K0 : w9.heap[D0]? = some (.deferred (some [])) := (b9.block D0 (by omega)).trans HF.out.1
          have K1' := (KeepsOthers.setCell w9 ⟨w.heap.size + 1 + 1 + 1, 0, none⟩ (.bool true)).same D1 _ K1 rfl
          have K0' := (KeepsOthers.setCell w9 ⟨w.heap.size + 1 + 1 + 1, 0, none⟩ (.bool true)).same D0 _ K0 rfl
          have r9 := (z9.set (.bool true)).cell
          have b10 : Below w.heap.size w (w9.setCell ⟨w.heap.size + 1 + 1 + 1, 0, none⟩ (.bool true)) := (bnext (bnext X.out.2.2.2.2.1 hb3) b9).setCell (p := ⟨w.heap.size + 1 + 1 + 1, 0, none⟩) (by show w.heap.size ≤ w.heap.size + 1 + 1 + 1; omega) _
          generalize w9.setCell ⟨w.heap.size + 1 + 1 + 1, 0, none⟩ (.bool true) = wz at *
          have K0'' : (wz.putObj D1 (.deferred none)).heap[D0]? = some (.deferred (some [])) := by rw [World.putObj_heap_other hne]; exact K0'
          have r10 := cell_kept r9 (grownBy_putObj' _ D1 (.deferred none)) (fun r e => by cases e; exact ⟨_, K1', rfl⟩)
          have r11 := cell_kept r10 (grownBy_putObj' _ D0 (.deferred none)) (fun r e => by cases e; exact ⟨_, K0'', rfl⟩)
          refine ⟨by simp, .inl ⟨_, _, rfl, run_takeDeferred K1', ?_⟩⟩
          refine ⟨by simp, .inl ⟨_, _, rfl, run_takeDeferred K0'', ?_⟩⟩
          refine ⟨.bool true, by simp [results, Tryd.f4, go_sem, r11], rfl, ?_⟩
          exact (b10.trans (belowK_b (w := w) (Nat.le_refl _) _ D1 _ _ (by omega) K1' rfl rfl)).trans (belowK_b (w := w) (Nat.le_refl _) _ D0 _ _ (by omega) K0'' rfl rfl)
        case bstop1 =>
          rintro D1 cc pre We hD1 ⟨jj, hjj, rfl⟩ hX hK1
          rcases hX with ⟨_, h⟩ | ⟨_, _, hp⟩
          · exact (h (by simp)).elim
          · exact hp.elim
end Go.Proofs.YtgjeejdebneoaaaDoor
