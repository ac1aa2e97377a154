/- PacketEach: the walk. -/
import Derived.Test.YtpadlillbofpnaaDoorPkI
import Derived.Test.YtpadlillbofpnaaDoorEq
import Derived.Test.YtpadlillbofpnaaDoorRngQ
namespace Go.Proofs.YtpadlillbofpnaaDoor
set_option linter.unusedVariables false
set_option linter.unusedSimpArgs false
open Go.RowKit Go.Shelf
attribute [local go_sem] Oper.semAt_some
set_option maxRecDepth 100000

set_option maxHeartbeats 8000000 in
theorem peach_walk (l : List UInt8) (A : Option Addr) (c : Nat) (many : Int) (w : World) (hw : WidthsAt w) (hlc : l.length ≤ c) (hcm : c ≤ 9223372036854775807) (hr : Rd w w.heap.size A (l.map b8)) :
    Calls Tryd.prog 6 #[.slice A l.length c, .int .i64 many] w fun e w' => e = .returned (.bool true) ∧ Below w.heap.size w w' := by
  have HW := Lib.hid hw
  have HR := Lib.hid hr
  clear hw hr
  have B0 : Below w.heap.size w ((w.alloc (.cells #[.int .i64 many] 3)).alloc (.cells #[.bool false] 4)) := balloc (balloc (Below.refl _ _) _) _
  have z1 := (Boxed.new w 3 (.int .i64 many)).alloc (.cells #[.bool false] 4)
  have z2 := Boxed.new (w.alloc (.cells #[.int .i64 many] 3)) 4 (.bool false)
  rw [World.size_alloc] at z2
  have Z := Lib.hid (And.intro z1 z2)
  clear z1 z2
  by_cases hl : 600 < l.length
  · go_enter Tryd.func6, Tryd.ntmps6
    go_wp2_with fail
    refine (works5_any _ (HW.out.below B0)).mono ?_
    rintro e w1 ⟨rfl, b1⟩
    have hB := boxed_below Z.out.2 b1 Z.out.2.lt
    have c1 := hB.cell
    have f1 := hB.frozen
    have d1 := (hB.set (.bool true)).cell
    have b2 := bnext B0 b1
    go_wp2_with fail
    refine bodyPost_ret (v := .bool true) (by simp [results, Tryd.results6, go_sem, d1]) rfl ⟨rfl, ?_⟩
    exact b2.setCell (p := ⟨w.heap.size + 1, 0, none⟩) (by simp) _
  · have hfn : ∀ (lb : Array Value) (w : World), (binOp .eql 50 (.func (.func 41) #[] lb) .nilFunc).run Tryd.prog w = .ok (.bool false) w := fun _ _ => rfl
    have HA0 := refdecode5_any l l.length rfl A c w.heap.size _ (HR.out.below B0) hlc hcm B0.size
    have HE0 := Lib.hid (fun W (hW : Below w.heap.size w W) => peach_any l l.length rfl A c W (HW.out.below hW) (HR.out.next hW) hlc hcm)
    have hlb : (bodB l).length ≤ 600 := by unfold bodB; split <;> simp <;> omega
    unfold DecR at HA0
    rw [bod_len, bod_C] at HA0
    generalize bodB l = bl at *
    generalize dcmd l = dc at *
    generalize decE l = de at *
    have HA := Lib.hid HA0
    clear HA0
    have hm300 : bl.length / 20 ≤ 30 := by omega
    refine (callsIn_wide (n := 6)).1 ?_
    refine callsIn_of_wp_marks Tryd.func6 rfl trivial ?_ rfl
    simp only [Tryd.ntmps6, List.size_toArray, List.length_cons, List.length_nil, Nat.reduceAdd, Nat.reduceSub, Array.replicate_succ, Array.replicate_zero, List.push_toArray, List.append_toArray, List.nil_append, List.cons_append]
    gi_wp2_with fail
    refine ⟨trivial, ?_⟩
    refine (callsIn_wide.2 HA.out).mono ?_
    rintro e w1 ⟨A', c', rfl, hvc, hvm, hvr, b1⟩
    have y1 := ((boxed_below Z.out.1 b1 Z.out.1.lt).alloc (.cells #[.int .i64 dc, .slice A' (bl.length / 20) c'] 27)).alloc (.cells #[.slice A' (bl.length / 20) c'] 25)
    have y2 := ((boxed_below Z.out.2 b1 Z.out.2.lt).alloc (.cells #[.int .i64 dc, .slice A' (bl.length / 20) c'] 27)).alloc (.cells #[.slice A' (bl.length / 20) c'] 25)
    have y3 := Boxed.new (w1.alloc (.cells #[.int .i64 dc, .slice A' (bl.length / 20) c'] 27)) 25 (.slice A' (bl.length / 20) c')
    simp only [World.size_alloc] at y3
    have hvr1 := (hvr.alloc (Nat.le_refl _) (.cells #[.int .i64 dc, .slice A' (bl.length / 20) c'] 27)).alloc (by simp) (.cells #[.slice A' (bl.length / 20) c'] 25)
    have b1' := balloc (balloc (bnext B0 b1) (.cells #[.int .i64 dc, .slice A' (bl.length / 20) c'] 27)) (.cells #[.slice A' (bl.length / 20) c'] 25)
    have hsz1 : w.heap.size + 2 ≤ w1.heap.size := by have := b1.size; simp at this; omega
    have HE := Lib.hid (HE0.out _ b1')
    have Y := Lib.hid (And.intro y1 (And.intro y2 (And.intro y3 (And.intro hvr1 b1'))))
    clear y1 y2 y3 hvr hvr1 b1 b1' HA B0 Z HE0
    gi_wp2_with fail
    refine ⟨trivial, ?_⟩
    refine (callsIn_wide.2 HE.out).mono ?_
    rintro e w2 ⟨lb, rfl, hE, b2⟩
    have hle12 : w1.heap.size + 1 ≤ w2.heap.size := by have := b2.size; simp at this; omega
    have X := Lib.hid (And.intro (boxed_below Y.out.1 b2 Y.out.1.lt) (And.intro (boxed_below Y.out.2.1 b2 Y.out.2.1.lt) (And.intro (boxed_below Y.out.2.2.1 b2 Y.out.2.2.1.lt) (And.intro (((Y.out.2.2.2.1.more (by simp; omega)).below b2).more b2.size) (And.intro (bnext Y.out.2.2.2.2 b2) hE)))))
    clear hE b2 HE Y
    gi_wp2_with fail
    -- the turns
    refine wpIn_loop_rounds 3 ?_
    have bt0 := Boxed.new w2 3 (.int .i64 0)
    have bb0 : Below w2.heap.size w2 (w2.alloc (.cells #[.int .i64 0] 3)) := balloc (Below.refl _ _) _
    generalize hg0 : w2.alloc (.cells #[.int .i64 0] 3) = Wr0 at *
    clear hg0
    rw [roundsIn_succ]
    have ct0 := bt0.cell
    gi_wp2_with fail
    have bn0 := Boxed.new Wr0 3 (.int .i64 0)
    have bl0 : Below w2.heap.size w2 (Wr0.alloc (.cells #[.int .i64 0] 3)) := balloc bb0 _
    have bu0 := bt0.alloc (.cells #[.int .i64 0] 3)
    have hlt0 := bt0.lt
    have hnl0 := bn0.lt
    have hwr0 := bb0.size
    generalize hgn0 : Wr0.alloc (.cells #[.int .i64 0] 3) = Wn0 at *
    generalize hbn0 : Wr0.heap.size = Bn0 at *
    clear hgn0 ct0
    refine wpIn_rangeFunc_ownH rfl (by omega) (gf := 41) (lb := lb) rfl trivial (enters_of Tryd.func41 (by kernel_rfl) rfl)
      (pe_stops 5 (by omega) Bn0 bl lb Wn0 (by omega) w2 X.out.2.2.2.2.2 bl0 (by omega) (by omega)) belowK_t (belowK_b (by omega)) (Below.refl _ _) (fun _ => rfl)
      (RI Wn0 Bn0 (fun pre => pre.length = 0 ∨ (pre.length : Int) < many)) (RX Wn0 Bn0 2 (fun pre => 0 < pre.length ∧ many ≤ pre.length ∧ (pre.length = 1 ∨ (pre.length : Int) - 1 < many))) (RI_own hnl0 (Nat.le_refl _)) (RX_own hnl0 (Nat.le_refl _)) ⟨⟨bn0, Below.refl _ _⟩, by simp⟩
      (AxB Bn0 55 (entA bl) ?a10) AxB_own ?assign0 ?body0 ?done0 ?stop0
    case assign0 =>
      rintro lp pre x W K ⟨⟨hn, hbW⟩, hp⟩ hK
      have hnl := hn.lt
      simp only [entEs, entE_eq]
      gi_wp2
      obtain ⟨Bx, hBx⟩ : ∃ Bx, W.heap.size = Bx := ⟨_, rfl⟩
      have bX := Blk.new W 55 (entA bl x)
      rw [hBx] at bX ⊢
      have hK' := hK (?a10 x Bx) _ ((KeepsOthers.alloc _ _).from _) ((Below.refl _ W).alloc (Nat.le_of_lt hnl) _) ⟨⟨hn.alloc _, hbW.alloc (Nat.le_of_lt hnl) _⟩, hp⟩ ⟨Bx, by omega, bX, rfl⟩
      exact hK'
    case body0 =>
      rintro lp pre x a' W hlp _ ⟨⟨hn, hbW⟩, hp⟩ ⟨Bx, hBx, bX, rfl⟩ hlt
      try dsimp only at hp
      have hb2 : Below w2.heap.size w2 W := bl0.trans (hbW.mono (by omega))
      have q1 := (boxed_below X.out.1 hb2 X.out.1.lt).cell
      have z2 := boxed_below X.out.2.1 hb2 X.out.2.1.lt
      have q2 := z2.cell
      have k2 := z2.frozen
      have q3 := (boxed_below X.out.2.2.1 hb2 X.out.2.2.1.lt).cell
      have qt := (boxed_below bu0 hbW (by omega)).cell
      have qn := hn.cell
      have kn := hn.frozen
      unfold entA at bX
      by_cases hx : x = pre.length
      · subst hx
        obtain ⟨b, off, hA, hbB, hcell⟩ := (X.out.2.2.2.1.below hb2) (by rw [entC_len]; omega)
        subst hA
        have e0 := hcell (pre.length * 6 + 0) _ ((entC_get bl _ pre.length hlt 0 (by omega)).trans rfl)
        have e1 := hcell (pre.length * 6 + 1) _ ((entC_get bl _ pre.length hlt 1 (by omega)).trans rfl)
        have e2 := hcell (pre.length * 6 + 2) _ ((entC_get bl _ pre.length hlt 2 (by omega)).trans rfl)
        have e3 := hcell (pre.length * 6 + 3) _ ((entC_get bl _ pre.length hlt 3 (by omega)).trans rfl)
        have e4 := hcell (pre.length * 6 + 4) _ ((entC_get bl _ pre.length hlt 4 (by omega)).trans rfl)
        have e5 := hcell (pre.length * 6 + 5) _ ((entC_get bl _ pre.length hlt 5 (by omega)).trans rfl)
        simp only [← Nat.add_assoc, Nat.add_zero] at e0 e1 e2 e3 e4 e5
        generalize fld (bl.drop (pre.length * 20)) 0 2 = v0 at *
        generalize fld (bl.drop (pre.length * 20)) 2 2 = v1 at *
        generalize fld (bl.drop (pre.length * 20)) 4 4 = v2 at *
        generalize fld (bl.drop (pre.length * 20)) 8 4 = v3 at *
        generalize fld (bl.drop (pre.length * 20)) 12 4 = v4 at *
        generalize fld (bl.drop (pre.length * 20)) 16 4 = v5 at *
        have m0 := (bX).cell 0
        have m1 := (bX).cell 1
        have m2 := (bX).cell 2
        have m3 := (bX).cell 3
        have m4 := (bX).cell 4
        have m5 := (bX).cell 5
        simp only [List.getElem?_toArray, List.getElem?_cons_zero, List.getElem?_cons_succ] at m0 m1 m2 m3 m4 m5
        have hNE := ne_ent v0 v1 v2 v3 v4 v5 v0 v1 v2 v3 v4 v5
        simp only [beq_self_eq_true, Bool.and_self, Bool.not_true] at hNE
        have hi1 : ((pre.length : Int) != pre.length) = false := by simp
        have hi2 : decide ((bl.length / 20) ≤ pre.length) = false := by simp; omega
        have hi3 : decide ((((bl.length / 20) : Nat) : Int) ≤ pre.length) = false := by simp; omega
        have hi5 : decide ((bl.length : Int) / 20 ≤ pre.length) = false := by simp; omega
        have hi6 : (0 : Int) ≤ pre.length ∧ (pre.length : Int) < (bl.length : Int) / 20 := by omega
        have hi4 : (0 : Int) ≤ pre.length ∧ (pre.length : Int) < ((bl.length / 20) : Nat) := by omega
        clear hcell
        gi_wp2_with fail
        refine region_round rfl (by kernel_rfl) (by kernel_rfl) (by kernel_rfl) ?_
        repeat (gi_big_quiet_step (fail))
        refine wpQuietIn_nil ?_
        rintro _ ⟨nq, rfl⟩
        have KQ : KeepsFrom Wn0.heap.size W (W.drewN nq) := keeps_below (below_drewN (Below.refl _ _) nq)
        have BQ : Below Bn0 W (W.drewN nq) := below_drewN (Below.refl _ _) nq
        replace hn : Boxed (W.drewN nq) Bn0 3 (.int .i64 pre.length) := hn
        have q1' : (W.drewN nq).cell? ⟨w.heap.size, 0, none⟩ = some (.int .i64 many) := q1
        have qt' : (W.drewN nq).cell? ⟨(w2.heap.size), 0, none⟩ = some (.int .i64 0) := qt
        have qn' := hn.cell
        have kn' := hn.frozen
        have hbW' : Below Bn0 Wn0 (W.drewN nq) := hbW.trans BQ
        clear hNE m0 m1 m2 m3 m4 m5 e0 e1 e2 e3 e4 e5 q1 q2 k2 q3 qt qn kn z2 hb2 hi1 hi2 hi3 hi4 hi5 hi6
        generalize W.drewN nq = Wq at *
        have hIn : Boxed (Wq.setCell ⟨Bn0, 0, none⟩ (.int .i64 (pre ++ [pre.length]).length)) Bn0 3 (.int .i64 (pre ++ [pre.length]).length) := hn.set _
        have hBn : Below Bn0 Wn0 (Wq.setCell ⟨Bn0, 0, none⟩ (.int .i64 (pre ++ [pre.length]).length)) := hbW'.setCell (p := ⟨Bn0, 0, none⟩) (Nat.le_refl _) _
        simp only [List.length_append, List.length_singleton, Int.natCast_add, Int.natCast_one] at hIn hBn
        have qn2 := hIn.cell
        have HIN := Lib.hid hIn
        have HBN := Lib.hid hBn
        clear hIn hBn
        have KF : KeepsFrom Wn0.heap.size W (Wq.setCell ⟨Bn0, 0, none⟩ (.int .i64 ((pre.length : Int) + 1))) := KQ.trans ((KeepsOthers.setCell _ _ _).from _)
        have KS : Below Bn0 Wq (Wq.setCell ⟨Bn0, 0, none⟩ (.int .i64 ((pre.length : Int) + 1))) := (Below.refl Bn0 Wq).setCell (p := ⟨Bn0, 0, none⟩) (Nat.le_refl _) _
        have KB : Below Bn0 W (Wq.setCell ⟨Bn0, 0, none⟩ (.int .i64 ((pre.length : Int) + 1))) := BQ.trans KS
        have qt2 : (Wq.setCell ⟨Bn0, 0, none⟩ (.int .i64 ((pre.length : Int) + 1))).cell? ⟨(w2.heap.size), 0, none⟩ = some (.int .i64 0) := (KS.cell (p := ⟨(w2.heap.size), 0, none⟩) (by show (w2.heap.size) < _; omega)).trans qt'
        have qm2 : (Wq.setCell ⟨Bn0, 0, none⟩ (.int .i64 ((pre.length : Int) + 1))).cell? ⟨w.heap.size, 0, none⟩ = some (.int .i64 many) := (KS.cell (p := ⟨w.heap.size, 0, none⟩) (by show w.heap.size < _; omega)).trans q1'
        by_cases hmany : many ≤ (pre.length : Int) + 1
        · gi_wp2
          exact ⟨KF, .inr ⟨rfl, ⟨by simpa using HIN.out, by simpa using HBN.out⟩, by have := len_snoc pre pre.length; dsimp only; omega⟩⟩
        · gi_wp2
          exact ⟨KF, KB, ⟨by simpa using HIN.out, by simpa using HBN.out⟩, by have := len_snoc pre pre.length; dsimp only; omega⟩
      · have hi1 : ((x : Int) != pre.length) = true := by simp; omega
        gi_wp2_with fail
        refine region_round rfl (by kernel_rfl) (by kernel_rfl) (by kernel_rfl) ?_
        repeat (gi_big_quiet_step (fail))
        refine wpQuietIn_nil ?_
        rintro _ ⟨nq, rfl⟩
        have q2' : (W.drewN nq).cell? ⟨w.heap.size + 1, 0, none⟩ = some (.bool false) := q2
        have k2' : (W.drewN nq).frozen? ⟨w.heap.size + 1, 0, none⟩ = false := k2
        gi_wp2
        exact ⟨(keeps_below (below_drewN (Below.refl _ _) nq)).trans ((KeepsOthers.setCell _ _ _).from _), .inl ⟨rfl, fun h => hx (range_last h).1⟩⟩
    case done0 =>
      rintro D0 ys Wm hD0 rfl ⟨⟨hn, hbW⟩, hp⟩ hK0
      simp only [List.length_range] at hn hp
      have hmm : min (((bl.length / 20) : Nat) : Int) (max 1 many) = ((bl.length / 20) : Nat) := by omega
      generalize hcnt : (bl.length / 20) = cnt at hn
      have hcnt0 : (cnt : Int) = min (((bl.length / 20) : Nat) : Int) (max 1 many) := by omega
      clear hcnt hmm hp
      have hb2 : Below w2.heap.size w2 Wm := bl0.trans (hbW.mono (by omega))
      have q1 := (boxed_below X.out.1 hb2 X.out.1.lt).cell
      have q3 := (boxed_below X.out.2.2.1 hb2 X.out.2.2.1.lt).cell
      have qt := (boxed_below bu0 hbW (by omega)).cell
      have qn := hn.cell
      have hc1 : (cnt : Int) ≤ ((bl.length / 20) : Nat) := by omega
      have hc2 : (cnt : Int) ≤ many ∨ (many ≤ 1 ∧ (cnt : Int) ≤ 1) := by omega
      have hc3 : (((bl.length / 20) : Nat) : Int) ≤ cnt ∨ (many ≤ cnt ∧ 1 ≤ (cnt : Int)) := by omega
      have hlD0 : D0 < Wm.heap.size := (Array.getElem?_eq_some_iff.1 hK0).1
      clear hcnt0
      gi_upto_region 19 with (fail)
      gi_cut [81] from 61 (fun s wx => s = .bool false ∧ Wm = wx)
      case first =>
        gi_wp2
        all_goals (gi_meet; case rel => exact ⟨rfl, rfl⟩)
      case rest =>
        obtain ⟨rfl, hwc⟩ := hcut
        subst hwc
        gi_wp2_with fail
        have bt1 := Boxed.new Wm 3 (.int .i64 1)
        have bb1 : Below w2.heap.size w2 (Wm.alloc (.cells #[.int .i64 1] 3)) := balloc hb2 _
        have hK0a : (Wm.alloc (.cells #[.int .i64 1] 3)).heap[D0]? = some (.deferred (some [])) := (Below.heap_alloc Wm _ D0 hlD0).trans hK0
        generalize hg1 : Wm.alloc (.cells #[.int .i64 1] 3) = Wr1 at *
        clear hg1 hK0 q1 q3 qt qn hc1 hc2 hc3
        rw [roundsIn_succ]
        have ct1 := bt1.cell
        gi_wp2_with fail
        have bn1 := Boxed.new Wr1 3 (.int .i64 0)
        have bl1 : Below w2.heap.size w2 (Wr1.alloc (.cells #[.int .i64 0] 3)) := balloc bb1 _
        have hK0n : (Wr1.alloc (.cells #[.int .i64 0] 3)).heap[D0]? = some (.deferred (some [])) := (Below.heap_alloc Wr1 _ D0 (Array.getElem?_eq_some_iff.1 hK0a).1).trans hK0a
        have hlD0n := (Array.getElem?_eq_some_iff.1 hK0a).1
        clear hK0a
        have bu1 := bt1.alloc (.cells #[.int .i64 0] 3)
        have hlt1 := bt1.lt
        have hnl1 := bn1.lt
        have hwr1 := bb1.size
        generalize hgn1 : Wr1.alloc (.cells #[.int .i64 0] 3) = Wn1 at *
        generalize hbn1 : Wr1.heap.size = Bn1 at *
        clear hgn1 ct1
        refine wpIn_rangeFunc_ownH rfl (by omega) (gf := 41) (lb := lb) rfl trivial (enters_of Tryd.func41 (by kernel_rfl) rfl)
          (pe_stops 5 (by omega) Bn1 bl lb Wn1 (by omega) w2 X.out.2.2.2.2.2 bl1 (by omega) (by omega)) belowK_t (belowK_b (by omega)) (Below.refl _ _) (fun _ => rfl)
          (RI Wn1 Bn1 (fun _ => True)) (RX Wn1 Bn1 2 (fun _ => False)) (RI_own hnl1 (Nat.le_refl _)) (RX_own hnl1 (Nat.le_refl _)) ⟨⟨bn1, Below.refl _ _⟩, by simp⟩
          (AxB Bn1 55 (entA bl) ?a11) AxB_own ?assign1 ?body1 ?done1 ?stop1
        case assign1 =>
          rintro lp pre x W K ⟨⟨hn, hbW⟩, hp⟩ hK
          have hnl := hn.lt
          simp only [entEs, entE_eq]
          gi_wp2
          obtain ⟨Bx, hBx⟩ : ∃ Bx, W.heap.size = Bx := ⟨_, rfl⟩
          have bX := Blk.new W 55 (entA bl x)
          rw [hBx] at bX ⊢
          have hK' := hK (?a11 x Bx) _ ((KeepsOthers.alloc _ _).from _) ((Below.refl _ W).alloc (Nat.le_of_lt hnl) _) ⟨⟨hn.alloc _, hbW.alloc (Nat.le_of_lt hnl) _⟩, hp⟩ ⟨Bx, by omega, bX, rfl⟩
          exact hK'
        case body1 =>
          rintro lp pre x a' W hlp _ ⟨⟨hn, hbW⟩, hp⟩ ⟨Bx, hBx, bX, rfl⟩ hlt
          try dsimp only at hp
          have hb2 : Below w2.heap.size w2 W := bl1.trans (hbW.mono (by omega))
          have q1 := (boxed_below X.out.1 hb2 X.out.1.lt).cell
          have z2 := boxed_below X.out.2.1 hb2 X.out.2.1.lt
          have q2 := z2.cell
          have k2 := z2.frozen
          have q3 := (boxed_below X.out.2.2.1 hb2 X.out.2.2.1.lt).cell
          have qt := (boxed_below bu1 hbW (by omega)).cell
          have qn := hn.cell
          have kn := hn.frozen
          unfold entA at bX
          by_cases hx : x = pre.length
          · subst hx
            obtain ⟨b, off, hA, hbB, hcell⟩ := (X.out.2.2.2.1.below hb2) (by rw [entC_len]; omega)
            subst hA
            have e0 := hcell (pre.length * 6 + 0) _ ((entC_get bl _ pre.length hlt 0 (by omega)).trans rfl)
            have e1 := hcell (pre.length * 6 + 1) _ ((entC_get bl _ pre.length hlt 1 (by omega)).trans rfl)
            have e2 := hcell (pre.length * 6 + 2) _ ((entC_get bl _ pre.length hlt 2 (by omega)).trans rfl)
            have e3 := hcell (pre.length * 6 + 3) _ ((entC_get bl _ pre.length hlt 3 (by omega)).trans rfl)
            have e4 := hcell (pre.length * 6 + 4) _ ((entC_get bl _ pre.length hlt 4 (by omega)).trans rfl)
            have e5 := hcell (pre.length * 6 + 5) _ ((entC_get bl _ pre.length hlt 5 (by omega)).trans rfl)
            simp only [← Nat.add_assoc, Nat.add_zero] at e0 e1 e2 e3 e4 e5
            generalize fld (bl.drop (pre.length * 20)) 0 2 = v0 at *
            generalize fld (bl.drop (pre.length * 20)) 2 2 = v1 at *
            generalize fld (bl.drop (pre.length * 20)) 4 4 = v2 at *
            generalize fld (bl.drop (pre.length * 20)) 8 4 = v3 at *
            generalize fld (bl.drop (pre.length * 20)) 12 4 = v4 at *
            generalize fld (bl.drop (pre.length * 20)) 16 4 = v5 at *
            have m0 := (bX).cell 0
            have m1 := (bX).cell 1
            have m2 := (bX).cell 2
            have m3 := (bX).cell 3
            have m4 := (bX).cell 4
            have m5 := (bX).cell 5
            simp only [List.getElem?_toArray, List.getElem?_cons_zero, List.getElem?_cons_succ] at m0 m1 m2 m3 m4 m5
            have hNE := ne_ent v0 v1 v2 v3 v4 v5 v0 v1 v2 v3 v4 v5
            simp only [beq_self_eq_true, Bool.and_self, Bool.not_true] at hNE
            have hi1 : ((pre.length : Int) != pre.length) = false := by simp
            have hi2 : decide ((bl.length / 20) ≤ pre.length) = false := by simp; omega
            have hi3 : decide ((((bl.length / 20) : Nat) : Int) ≤ pre.length) = false := by simp; omega
            have hi5 : decide ((bl.length : Int) / 20 ≤ pre.length) = false := by simp; omega
            have hi6 : (0 : Int) ≤ pre.length ∧ (pre.length : Int) < (bl.length : Int) / 20 := by omega
            have hi4 : (0 : Int) ≤ pre.length ∧ (pre.length : Int) < ((bl.length / 20) : Nat) := by omega
            clear hcell
            gi_wp2_with fail
            refine region_round rfl (by kernel_rfl) (by kernel_rfl) (by kernel_rfl) ?_
            repeat (gi_big_quiet_step (fail))
            refine wpQuietIn_nil ?_
            rintro _ ⟨nq, rfl⟩
            have KQ : KeepsFrom Wn1.heap.size W (W.drewN nq) := keeps_below (below_drewN (Below.refl _ _) nq)
            have BQ : Below Bn1 W (W.drewN nq) := below_drewN (Below.refl _ _) nq
            replace hn : Boxed (W.drewN nq) Bn1 3 (.int .i64 pre.length) := hn
            have q1' : (W.drewN nq).cell? ⟨w.heap.size, 0, none⟩ = some (.int .i64 many) := q1
            have qt' : (W.drewN nq).cell? ⟨(Wm.heap.size), 0, none⟩ = some (.int .i64 1) := qt
            have qn' := hn.cell
            have kn' := hn.frozen
            have hbW' : Below Bn1 Wn1 (W.drewN nq) := hbW.trans BQ
            clear hNE m0 m1 m2 m3 m4 m5 e0 e1 e2 e3 e4 e5 q1 q2 k2 q3 qt qn kn z2 hb2 hi1 hi2 hi3 hi4 hi5 hi6
            generalize W.drewN nq = Wq at *
            have hIn : Boxed (Wq.setCell ⟨Bn1, 0, none⟩ (.int .i64 (pre ++ [pre.length]).length)) Bn1 3 (.int .i64 (pre ++ [pre.length]).length) := hn.set _
            have hBn : Below Bn1 Wn1 (Wq.setCell ⟨Bn1, 0, none⟩ (.int .i64 (pre ++ [pre.length]).length)) := hbW'.setCell (p := ⟨Bn1, 0, none⟩) (Nat.le_refl _) _
            simp only [List.length_append, List.length_singleton, Int.natCast_add, Int.natCast_one] at hIn hBn
            have qn2 := hIn.cell
            have HIN := Lib.hid hIn
            have HBN := Lib.hid hBn
            clear hIn hBn
            have KF : KeepsFrom Wn1.heap.size W (Wq.setCell ⟨Bn1, 0, none⟩ (.int .i64 ((pre.length : Int) + 1))) := KQ.trans ((KeepsOthers.setCell _ _ _).from _)
            have KS : Below Bn1 Wq (Wq.setCell ⟨Bn1, 0, none⟩ (.int .i64 ((pre.length : Int) + 1))) := (Below.refl Bn1 Wq).setCell (p := ⟨Bn1, 0, none⟩) (Nat.le_refl _) _
            have KB : Below Bn1 W (Wq.setCell ⟨Bn1, 0, none⟩ (.int .i64 ((pre.length : Int) + 1))) := BQ.trans KS
            have qt2 : (Wq.setCell ⟨Bn1, 0, none⟩ (.int .i64 ((pre.length : Int) + 1))).cell? ⟨(Wm.heap.size), 0, none⟩ = some (.int .i64 1) := (KS.cell (p := ⟨(Wm.heap.size), 0, none⟩) (by show (Wm.heap.size) < _; omega)).trans qt'
            have qm2 : (Wq.setCell ⟨Bn1, 0, none⟩ (.int .i64 ((pre.length : Int) + 1))).cell? ⟨w.heap.size, 0, none⟩ = some (.int .i64 many) := (KS.cell (p := ⟨w.heap.size, 0, none⟩) (by show w.heap.size < _; omega)).trans q1'
            gi_wp2
            exact ⟨KF, KB, ⟨by simpa using HIN.out, by simpa using HBN.out⟩, trivial⟩
          · have hi1 : ((x : Int) != pre.length) = true := by simp; omega
            gi_wp2_with fail
            refine region_round rfl (by kernel_rfl) (by kernel_rfl) (by kernel_rfl) ?_
            repeat (gi_big_quiet_step (fail))
            refine wpQuietIn_nil ?_
            rintro _ ⟨nq, rfl⟩
            have q2' : (W.drewN nq).cell? ⟨w.heap.size + 1, 0, none⟩ = some (.bool false) := q2
            have k2' : (W.drewN nq).frozen? ⟨w.heap.size + 1, 0, none⟩ = false := k2
            gi_wp2
            exact ⟨(keeps_below (below_drewN (Below.refl _ _) nq)).trans ((KeepsOthers.setCell _ _ _).from _), .inl ⟨rfl, fun h => hx (range_last h).1⟩⟩
        case done1 =>
          rintro D1 ys We hD1 rfl ⟨⟨hn, hbW⟩, hp⟩ hK1
          simp only [List.length_range] at hn
          have hb2 : Below w2.heap.size w2 We := bl1.trans (hbW.mono (by omega))
          have q1 := (boxed_below X.out.1 hb2 X.out.1.lt).cell
          have q3 := (boxed_below X.out.2.2.1 hb2 X.out.2.2.1.lt).cell
          have qt := (boxed_below bu1 hbW (by omega)).cell
          have qn := hn.cell
          have hlD1 : D1 < We.heap.size := (Array.getElem?_eq_some_iff.1 hK1).1
          have hK0e : We.heap[D0]? = some (.deferred (some [])) := (hbW.block D0 (by omega)).trans hK0n
          have hne : D0 ≠ D1 := by omega
          clear hK0n
          gi_wp2_with fail
          rw [roundsIn_succ]
          have btf := (Boxed.new We 3 (.int .i64 2)).cell
          have bbf : Below We.heap.size We (We.alloc (.cells #[.int .i64 2] 3)) := balloc (Below.refl _ _) _
          generalize hgf : We.alloc (.cells #[.int .i64 2] 3) = Wf at *
          have hb3 := bnext hb2 bbf
          have HF := Lib.hid (And.intro ((bbf.block D0 (by omega)).trans hK0e) ((bbf.block D1 hlD1).trans hK1))
          have hzf := bbf.size
          clear hgf hK0e hK1
          gi_wp2_with (first | (refine ⟨trivial, ?_⟩; gi_at_call 8; refine (callsIn_wide.2 (works5_any _ (HW.out.below (bnext X.out.2.2.2.2.1 hb3)))).mono ?_; rintro e w9 ⟨rfl, b9⟩; have z9 := boxed_below X.out.2.1 (bnext hb3 b9) X.out.2.1.lt; have q9 := z9.cell; have k9 := z9.frozen))
          have K1 : w9.heap[D1]? = some (.deferred (some [])) := (b9.block D1 (by omega)).trans HF.out.2
          have K0 : w9.heap[D0]? = some (.deferred (some [])) := (b9.block D0 (by omega)).trans HF.out.1
          have K1' := (KeepsOthers.setCell w9 ⟨w.heap.size + 1, 0, none⟩ (.bool true)).same D1 _ K1 rfl
          have K0' := (KeepsOthers.setCell w9 ⟨w.heap.size + 1, 0, none⟩ (.bool true)).same D0 _ K0 rfl
          have r9 := (z9.set (.bool true)).cell
          have b10 : Below w.heap.size w (w9.setCell ⟨w.heap.size + 1, 0, none⟩ (.bool true)) := (bnext (bnext X.out.2.2.2.2.1 hb3) b9).setCell (p := ⟨w.heap.size + 1, 0, none⟩) (by show w.heap.size ≤ w.heap.size + 1; omega) _
          generalize w9.setCell ⟨w.heap.size + 1, 0, none⟩ (.bool true) = wz at *
          have K0'' : (wz.putObj D1 (.deferred none)).heap[D0]? = some (.deferred (some [])) := by rw [World.putObj_heap_other hne]; exact K0'
          have r10 := cell_kept r9 (grownBy_putObj' _ D1 (.deferred none)) (fun r e => by cases e; exact ⟨_, K1', rfl⟩)
          have r11 := cell_kept r10 (grownBy_putObj' _ D0 (.deferred none)) (fun r e => by cases e; exact ⟨_, K0'', rfl⟩)
          refine ⟨by simp, .inl ⟨_, _, rfl, run_takeDeferred K1', ?_⟩⟩
          refine ⟨by simp, .inl ⟨_, _, rfl, run_takeDeferred K0'', ?_⟩⟩
          refine ⟨.bool true, by simp [results, Tryd.f6, go_sem, r11], rfl, ?_⟩
          exact (b10.trans (belowK_b (w := w) (Nat.le_refl _) _ D1 _ _ (by omega) K1' rfl rfl)).trans (belowK_b (w := w) (Nat.le_refl _) _ D0 _ _ (by omega) K0'' rfl rfl)
        case stop1 =>
          rintro D1 cc pre We hD1 ⟨jj, hjj, rfl⟩ hX hK1
          rcases hX with ⟨_, h⟩ | ⟨_, _, hp⟩
          · exact (h (by simp)).elim
          · exact hp.elim
    case stop0 =>
      rintro D0 cc pre Wm hD0 ⟨jj, hjj, rfl⟩ hX hK0
      rcases hX with ⟨_, h⟩ | ⟨rfl, ⟨hn, hbW⟩, hp⟩
      · exact (h (by simp)).elim
      simp only [List.length_range] at hn hp
      have hcnt0 : (jj : Int) = min (((bl.length / 20) : Nat) : Int) (max 1 many) := by omega
      obtain ⟨cnt, rfl⟩ : ∃ cnt, cnt = jj := ⟨_, rfl⟩
      clear hp hjj
      have hb2 : Below w2.heap.size w2 Wm := bl0.trans (hbW.mono (by omega))
      have q1 := (boxed_below X.out.1 hb2 X.out.1.lt).cell
      have q3 := (boxed_below X.out.2.2.1 hb2 X.out.2.2.1.lt).cell
      have qt := (boxed_below bu0 hbW (by omega)).cell
      have qn := hn.cell
      have hc1 : (cnt : Int) ≤ ((bl.length / 20) : Nat) := by omega
      have hc2 : (cnt : Int) ≤ many ∨ (many ≤ 1 ∧ (cnt : Int) ≤ 1) := by omega
      have hc3 : (((bl.length / 20) : Nat) : Int) ≤ cnt ∨ (many ≤ cnt ∧ 1 ≤ (cnt : Int)) := by omega
      have hlD0 : D0 < Wm.heap.size := (Array.getElem?_eq_some_iff.1 hK0).1
      clear hcnt0
      gi_upto_region 19 with (fail)
      gi_cut [81] from 61 (fun s wx => s = .bool false ∧ Wm = wx)
      case first =>
        gi_wp2
        all_goals (gi_meet; case rel => exact ⟨rfl, rfl⟩)
      case rest =>
        obtain ⟨rfl, hwc⟩ := hcut
        subst hwc
        gi_wp2_with fail
        have bt1 := Boxed.new Wm 3 (.int .i64 1)
        have bb1 : Below w2.heap.size w2 (Wm.alloc (.cells #[.int .i64 1] 3)) := balloc hb2 _
        have hK0a : (Wm.alloc (.cells #[.int .i64 1] 3)).heap[D0]? = some (.deferred (some [])) := (Below.heap_alloc Wm _ D0 hlD0).trans hK0
        generalize hg1 : Wm.alloc (.cells #[.int .i64 1] 3) = Wr1 at *
        clear hg1 hK0 q1 q3 qt qn hc1 hc2 hc3
        rw [roundsIn_succ]
        have ct1 := bt1.cell
        gi_wp2_with fail
        have bn1 := Boxed.new Wr1 3 (.int .i64 0)
        have bl1 : Below w2.heap.size w2 (Wr1.alloc (.cells #[.int .i64 0] 3)) := balloc bb1 _
        have hK0n : (Wr1.alloc (.cells #[.int .i64 0] 3)).heap[D0]? = some (.deferred (some [])) := (Below.heap_alloc Wr1 _ D0 (Array.getElem?_eq_some_iff.1 hK0a).1).trans hK0a
        have hlD0n := (Array.getElem?_eq_some_iff.1 hK0a).1
        clear hK0a
        have bu1 := bt1.alloc (.cells #[.int .i64 0] 3)
        have hlt1 := bt1.lt
        have hnl1 := bn1.lt
        have hwr1 := bb1.size
        generalize hgn1 : Wr1.alloc (.cells #[.int .i64 0] 3) = Wn1 at *
        generalize hbn1 : Wr1.heap.size = Bn1 at *
        clear hgn1 ct1
        refine wpIn_rangeFunc_ownH rfl (by omega) (gf := 41) (lb := lb) rfl trivial (enters_of Tryd.func41 (by kernel_rfl) rfl)
          (pe_stops 5 (by omega) Bn1 bl lb Wn1 (by omega) w2 X.out.2.2.2.2.2 bl1 (by omega) (by omega)) belowK_t (belowK_b (by omega)) (Below.refl _ _) (fun _ => rfl)
          (RI Wn1 Bn1 (fun _ => True)) (RX Wn1 Bn1 2 (fun _ => False)) (RI_own hnl1 (Nat.le_refl _)) (RX_own hnl1 (Nat.le_refl _)) ⟨⟨bn1, Below.refl _ _⟩, by simp⟩
          (AxB Bn1 55 (entA bl) ?b11) AxB_own ?bssign1 ?bbody1 ?bdone1 ?bstop1
        case bssign1 =>
          rintro lp pre x W K ⟨⟨hn, hbW⟩, hp⟩ hK
          have hnl := hn.lt
          simp only [entEs, entE_eq]
          gi_wp2
          obtain ⟨Bx, hBx⟩ : ∃ Bx, W.heap.size = Bx := ⟨_, rfl⟩
          have bX := Blk.new W 55 (entA bl x)
          rw [hBx] at bX ⊢
          have hK' := hK (?b11 x Bx) _ ((KeepsOthers.alloc _ _).from _) ((Below.refl _ W).alloc (Nat.le_of_lt hnl) _) ⟨⟨hn.alloc _, hbW.alloc (Nat.le_of_lt hnl) _⟩, hp⟩ ⟨Bx, by omega, bX, rfl⟩
          exact hK'
        case bbody1 =>
          rintro lp pre x a' W hlp _ ⟨⟨hn, hbW⟩, hp⟩ ⟨Bx, hBx, bX, rfl⟩ hlt
          try dsimp only at hp
          have hb2 : Below w2.heap.size w2 W := bl1.trans (hbW.mono (by omega))
          have q1 := (boxed_below X.out.1 hb2 X.out.1.lt).cell
          have z2 := boxed_below X.out.2.1 hb2 X.out.2.1.lt
          have q2 := z2.cell
          have k2 := z2.frozen
          have q3 := (boxed_below X.out.2.2.1 hb2 X.out.2.2.1.lt).cell
          have qt := (boxed_below bu1 hbW (by omega)).cell
          have qn := hn.cell
          have kn := hn.frozen
          unfold entA at bX
          by_cases hx : x = pre.length
          · subst hx
            obtain ⟨b, off, hA, hbB, hcell⟩ := (X.out.2.2.2.1.below hb2) (by rw [entC_len]; omega)
            subst hA
            have e0 := hcell (pre.length * 6 + 0) _ ((entC_get bl _ pre.length hlt 0 (by omega)).trans rfl)
            have e1 := hcell (pre.length * 6 + 1) _ ((entC_get bl _ pre.length hlt 1 (by omega)).trans rfl)
            have e2 := hcell (pre.length * 6 + 2) _ ((entC_get bl _ pre.length hlt 2 (by omega)).trans rfl)
            have e3 := hcell (pre.length * 6 + 3) _ ((entC_get bl _ pre.length hlt 3 (by omega)).trans rfl)
            have e4 := hcell (pre.length * 6 + 4) _ ((entC_get bl _ pre.length hlt 4 (by omega)).trans rfl)
            have e5 := hcell (pre.length * 6 + 5) _ ((entC_get bl _ pre.length hlt 5 (by omega)).trans rfl)
            simp only [← Nat.add_assoc, Nat.add_zero] at e0 e1 e2 e3 e4 e5
            generalize fld (bl.drop (pre.length * 20)) 0 2 = v0 at *
            generalize fld (bl.drop (pre.length * 20)) 2 2 = v1 at *
            generalize fld (bl.drop (pre.length * 20)) 4 4 = v2 at *
            generalize fld (bl.drop (pre.length * 20)) 8 4 = v3 at *
            generalize fld (bl.drop (pre.length * 20)) 12 4 = v4 at *
            generalize fld (bl.drop (pre.length * 20)) 16 4 = v5 at *
            have m0 := (bX).cell 0
            have m1 := (bX).cell 1
            have m2 := (bX).cell 2
            have m3 := (bX).cell 3
            have m4 := (bX).cell 4
            have m5 := (bX).cell 5
            simp only [List.getElem?_toArray, List.getElem?_cons_zero, List.getElem?_cons_succ] at m0 m1 m2 m3 m4 m5
            have hNE := ne_ent v0 v1 v2 v3 v4 v5 v0 v1 v2 v3 v4 v5
            simp only [beq_self_eq_true, Bool.and_self, Bool.not_true] at hNE
            have hi1 : ((pre.length : Int) != pre.length) = false := by simp
            have hi2 : decide ((bl.length / 20) ≤ pre.length) = false := by simp; omega
            have hi3 : decide ((((bl.length / 20) : Nat) : Int) ≤ pre.length) = false := by simp; omega
            have hi5 : decide ((bl.length : Int) / 20 ≤ pre.length) = false := by simp; omega
            have hi6 : (0 : Int) ≤ pre.length ∧ (pre.length : Int) < (bl.length : Int) / 20 := by omega
            have hi4 : (0 : Int) ≤ pre.length ∧ (pre.length : Int) < ((bl.length / 20) : Nat) := by omega
            clear hcell
            gi_wp2_with fail
            refine region_round rfl (by kernel_rfl) (by kernel_rfl) (by kernel_rfl) ?_
            repeat (gi_big_quiet_step (fail))
            refine wpQuietIn_nil ?_
            rintro _ ⟨nq, rfl⟩
            have KQ : KeepsFrom Wn1.heap.size W (W.drewN nq) := keeps_below (below_drewN (Below.refl _ _) nq)
            have BQ : Below Bn1 W (W.drewN nq) := below_drewN (Below.refl _ _) nq
            replace hn : Boxed (W.drewN nq) Bn1 3 (.int .i64 pre.length) := hn
            have q1' : (W.drewN nq).cell? ⟨w.heap.size, 0, none⟩ = some (.int .i64 many) := q1
            have qt' : (W.drewN nq).cell? ⟨(Wm.heap.size), 0, none⟩ = some (.int .i64 1) := qt
            have qn' := hn.cell
            have kn' := hn.frozen
            have hbW' : Below Bn1 Wn1 (W.drewN nq) := hbW.trans BQ
            clear hNE m0 m1 m2 m3 m4 m5 e0 e1 e2 e3 e4 e5 q1 q2 k2 q3 qt qn kn z2 hb2 hi1 hi2 hi3 hi4 hi5 hi6
            generalize W.drewN nq = Wq at *
            have hIn : Boxed (Wq.setCell ⟨Bn1, 0, none⟩ (.int .i64 (pre ++ [pre.length]).length)) Bn1 3 (.int .i64 (pre ++ [pre.length]).length) := hn.set _
            have hBn : Below Bn1 Wn1 (Wq.setCell ⟨Bn1, 0, none⟩ (.int .i64 (pre ++ [pre.length]).length)) := hbW'.setCell (p := ⟨Bn1, 0, none⟩) (Nat.le_refl _) _
            simp only [List.length_append, List.length_singleton, Int.natCast_add, Int.natCast_one] at hIn hBn
            have qn2 := hIn.cell
            have HIN := Lib.hid hIn
            have HBN := Lib.hid hBn
            clear hIn hBn
            have KF : KeepsFrom Wn1.heap.size W (Wq.setCell ⟨Bn1, 0, none⟩ (.int .i64 ((pre.length : Int) + 1))) := KQ.trans ((KeepsOthers.setCell _ _ _).from _)
            have KS : Below Bn1 Wq (Wq.setCell ⟨Bn1, 0, none⟩ (.int .i64 ((pre.length : Int) + 1))) := (Below.refl Bn1 Wq).setCell (p := ⟨Bn1, 0, none⟩) (Nat.le_refl _) _
            have KB : Below Bn1 W (Wq.setCell ⟨Bn1, 0, none⟩ (.int .i64 ((pre.length : Int) + 1))) := BQ.trans KS
            have qt2 : (Wq.setCell ⟨Bn1, 0, none⟩ (.int .i64 ((pre.length : Int) + 1))).cell? ⟨(Wm.heap.size), 0, none⟩ = some (.int .i64 1) := (KS.cell (p := ⟨(Wm.heap.size), 0, none⟩) (by show (Wm.heap.size) < _; omega)).trans qt'
            have qm2 : (Wq.setCell ⟨Bn1, 0, none⟩ (.int .i64 ((pre.length : Int) + 1))).cell? ⟨w.heap.size, 0, none⟩ = some (.int .i64 many) := (KS.cell (p := ⟨w.heap.size, 0, none⟩) (by show w.heap.size < _; omega)).trans q1'
            gi_wp2
            exact ⟨KF, KB, ⟨by simpa using HIN.out, by simpa using HBN.out⟩, trivial⟩
          · have hi1 : ((x : Int) != pre.length) = true := by simp; omega
            gi_wp2_with fail
            refine region_round rfl (by kernel_rfl) (by kernel_rfl) (by kernel_rfl) ?_
            repeat (gi_big_quiet_step (fail))
            refine wpQuietIn_nil ?_
            rintro _ ⟨nq, rfl⟩
            have q2' : (W.drewN nq).cell? ⟨w.heap.size + 1, 0, none⟩ = some (.bool false) := q2
            have k2' : (W.drewN nq).frozen? ⟨w.heap.size + 1, 0, none⟩ = false := k2
            gi_wp2
            exact ⟨(keeps_below (below_drewN (Below.refl _ _) nq)).trans ((KeepsOthers.setCell _ _ _).from _), .inl ⟨rfl, fun h => hx (range_last h).1⟩⟩
        case bdone1 =>
          rintro D1 ys We hD1 rfl ⟨⟨hn, hbW⟩, hp⟩ hK1
          simp only [List.length_range] at hn
          have hb2 : Below w2.heap.size w2 We := bl1.trans (hbW.mono (by omega))
          have q1 := (boxed_below X.out.1 hb2 X.out.1.lt).cell
          have q3 := (boxed_below X.out.2.2.1 hb2 X.out.2.2.1.lt).cell
          have qt := (boxed_below bu1 hbW (by omega)).cell
          have qn := hn.cell
          have hlD1 : D1 < We.heap.size := (Array.getElem?_eq_some_iff.1 hK1).1
          have hK0e : We.heap[D0]? = some (.deferred (some [])) := (hbW.block D0 (by omega)).trans hK0n
          have hne : D0 ≠ D1 := by omega
          clear hK0n
          gi_wp2_with fail
          rw [roundsIn_succ]
          have btf := (Boxed.new We 3 (.int .i64 2)).cell
          have bbf : Below We.heap.size We (We.alloc (.cells #[.int .i64 2] 3)) := balloc (Below.refl _ _) _
          generalize hgf : We.alloc (.cells #[.int .i64 2] 3) = Wf at *
          have hb3 := bnext hb2 bbf
          have HF := Lib.hid (And.intro ((bbf.block D0 (by omega)).trans hK0e) ((bbf.block D1 hlD1).trans hK1))
          have hzf := bbf.size
          clear hgf hK0e hK1
          gi_wp2_with (first | (refine ⟨trivial, ?_⟩; gi_at_call 8; refine (callsIn_wide.2 (works5_any _ (HW.out.below (bnext X.out.2.2.2.2.1 hb3)))).mono ?_; rintro e w9 ⟨rfl, b9⟩; have z9 := boxed_below X.out.2.1 (bnext hb3 b9) X.out.2.1.lt; have q9 := z9.cell; have k9 := z9.frozen))
          have K1 : w9.heap[D1]? = some (.deferred (some [])) := (b9.block D1 (by omega)).trans HF.out.2
          have K0 : w9.heap[D0]? = some (.deferred (some [])) := (b9.block D0 (by omega)).trans HF.out.1
          have K1' := (KeepsOthers.setCell w9 ⟨w.heap.size + 1, 0, none⟩ (.bool true)).same D1 _ K1 rfl
          have K0' := (KeepsOthers.setCell w9 ⟨w.heap.size + 1, 0, none⟩ (.bool true)).same D0 _ K0 rfl
          have r9 := (z9.set (.bool true)).cell
          have b10 : Below w.heap.size w (w9.setCell ⟨w.heap.size + 1, 0, none⟩ (.bool true)) := (bnext (bnext X.out.2.2.2.2.1 hb3) b9).setCell (p := ⟨w.heap.size + 1, 0, none⟩) (by show w.heap.size ≤ w.heap.size + 1; omega) _
          generalize w9.setCell ⟨w.heap.size + 1, 0, none⟩ (.bool true) = wz at *
          have K0'' : (wz.putObj D1 (.deferred none)).heap[D0]? = some (.deferred (some [])) := by rw [World.putObj_heap_other hne]; exact K0'
          have r10 := cell_kept r9 (grownBy_putObj' _ D1 (.deferred none)) (fun r e => by cases e; exact ⟨_, K1', rfl⟩)
          have r11 := cell_kept r10 (grownBy_putObj' _ D0 (.deferred none)) (fun r e => by cases e; exact ⟨_, K0'', rfl⟩)
          refine ⟨by simp, .inl ⟨_, _, rfl, run_takeDeferred K1', ?_⟩⟩
          refine ⟨by simp, .inl ⟨_, _, rfl, run_takeDeferred K0'', ?_⟩⟩
          refine ⟨.bool true, by simp [results, Tryd.f6, go_sem, r11], rfl, ?_⟩
          exact (b10.trans (belowK_b (w := w) (Nat.le_refl _) _ D1 _ _ (by omega) K1' rfl rfl)).trans (belowK_b (w := w) (Nat.le_refl _) _ D0 _ _ (by omega) K0'' rfl rfl)
        case bstop1 =>
          rintro D1 cc pre We hD1 ⟨jj, hjj, rfl⟩ hX hK1
          rcases hX with ⟨_, h⟩ | ⟨_, _, hp⟩
          · exact (h (by simp)).elim
          · exact hp.elim
end Go.Proofs.YtpadlillbofpnaaDoor
