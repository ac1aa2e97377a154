/- GuardCopies: the walk. -/
import Derived.Test.YtlanfceilajifaaGreatDoorGuJ
namespace Go.Proofs.YtlanfceilajifaaGreatDoor
set_option linter.unusedVariables false
set_option linter.unusedSimpArgs false
open Go.RowKit
set_option maxRecDepth 100000
attribute [local go_sem ↓] loadVar_T storeVar_T
attribute [local go_sem] run_ld16 run_st16 tF_ok tF_size
theorem bd15 : ∀ x ∈ z15, 0 ≤ x ∧ x ≤ 2147483647 := by
  intro x hx
  simp [z15] at hx
  omega

theorem two_next {wr w6 : World} {B g g' bw : Nat} {L M : List Int} (HT : Two wr B g bw L) (hT6 : Ta w6 g' M) (f6 : Fr (fun k => k ≠ g) wr.drew w6) (hgg : g' = g ∨ wr.drew.heap.size ≤ g') :
    Two (w6.setRow bw (tF (ftal M))) B g' bw M ∧ Below B wr (w6.setRow bw (tF (ftal M))) := by
  have h1 := HT.ta.lt
  have h2 := HT.blk.lt
  have h3 := HT.ge
  have h4 := HT.be
  have h5 := HT.ne
  have hgg' : g' = g ∨ wr.heap.size ≤ g' := hgg
  have hb6 := f6.blk (HT.blk.drewN 1) HT.ne
  refine ⟨⟨hT6.setRow_ne (by omega) _, hb6.setRow _, by omega, h4, by omega⟩, below_setRow16 ?_ h4 _⟩
  exact Fr.below ((Fr.drewN 1).trans f6) (by omega) (fun k hk => by omega)

set_option maxHeartbeats 8000000 in
theorem guardcopies_walk (l : List Ac16) (n k : Nat) (hn : l.length = n) (A : Option Addr) (a b : Ac16) (many : Int) (w : World) (h : Rd w w.heap.size A (l.flatMap acL16)) (hk : n ≤ k ∧ k ≤ 9223372036854775807) (hm : ∀ x ∈ l, x.ma ≤ 9223372036854775807) (ha : a.ma ≤ 9223372036854775807) (hb : b.ma ≤ 9223372036854775807) (hR : RelsAt w) (hw : WidthsAt w) :
    Calls Tryz.prog 7 #[.slice A n k, .agg #[.int .i64 a.wh, .int .i64 a.er, .int .i64 a.re, .int .i64 a.ma], .agg #[.int .i64 b.wh, .int .i64 b.er, .int .i64 b.re, .int .i64 b.ma], .int .i64 many] w fun e w' => e = .returned (.bool true) ∧ Below w.heap.size w w' := by
  have HWK := Lib.hid (fun W (hb : Below w.heap.size w W) => works16_any W (hR.below hb) (hw.below hb))
  have B0 : Below w.heap.size w ((w.alloc (.cells #[.int .i64 a.wh, .int .i64 a.er, .int .i64 a.re, .int .i64 a.ma] 72)).alloc (.cells #[.int .i64 b.wh, .int .i64 b.er, .int .i64 b.re, .int .i64 b.ma] 72)) := balloc (balloc (Below.refl _ _) _) _
  have xa := (Blk.new w 72 #[.int .i64 a.wh, .int .i64 a.er, .int .i64 a.re, .int .i64 a.ma]).alloc (.cells #[.int .i64 b.wh, .int .i64 b.er, .int .i64 b.re, .int .i64 b.ma] 72)
  have xb := Blk.new (w.alloc (.cells #[.int .i64 a.wh, .int .i64 a.er, .int .i64 a.re, .int .i64 a.ma] 72)) 72 #[.int .i64 b.wh, .int .i64 b.er, .int .i64 b.re, .int .i64 b.ma]
  rw [World.size_alloc] at xb
  clear hR hw
  by_cases h30 : 30 < n
  · have d0 : decide ((30 : Int) < (n : Int)) = true := by simp; omega
    have HB := Lib.hid B0
    clear h30 B0 xa xb
    go_enter Tryz.func7, Tryz.ntmps7
    go_wp2_with fail
    refine (HWK.out _ HB.out).mono ?_
    rintro e w1 ⟨rfl, b1⟩
    have B1 := Lib.hid (bnext HB.out b1)
    clear b1
    go_wp2_with fail
    go_ret
    exact ⟨rfl, B1.out⟩
  have d0 : decide ((30 : Int) < (n : Int)) = false := by simp; omega
  have hn30 : n ≤ 30 := by omega
  have HN := Lib.hid hn
  have HM := Lib.hid hm
  have HAB := Lib.hid (And.intro ha hb)
  have HH := Lib.hid (h.below B0)
  have HZ := Lib.hid (show #[.int .i64 0, .int .i64 0, .int .i64 0, .int .i64 0, .int .i64 0, .int .i64 0, .int .i64 0, .int .i64 0, .int .i64 0, .int .i64 0, .int .i64 0, .int .i64 0, .int .i64 0, .int .i64 0, .int .i64 0, .int .i64 0] = tF (ftal z15) from tF_zero)
  have okz := okZ16
  have hpn : ∀ w, (binOp .neq 63 (.pointer none) (.pointer none)).run Tryz.prog w = .ok (.bool false) w := fun _ => by kernel_rfl
  have hsz : ((w.alloc (.cells #[.int .i64 a.wh, .int .i64 a.er, .int .i64 a.re, .int .i64 a.ma] 72)).alloc (.cells #[.int .i64 b.wh, .int .i64 b.er, .int .i64 b.re, .int .i64 b.ma] 72)).heap.size = w.heap.size + 2 := by simp
  obtain ⟨w0, hw0⟩ : ∃ w0, w0 = (w.alloc (.cells #[.int .i64 a.wh, .int .i64 a.er, .int .i64 a.re, .int .i64 a.ma] 72)).alloc (.cells #[.int .i64 b.wh, .int .i64 b.er, .int .i64 b.re, .int .i64 b.ma] 72) := ⟨_, rfl⟩
  rw [← hw0] at B0 xa xb hsz HH
  have HW0 := Lib.hid hw0
  have HS0 := Lib.hid hsz
  have X := Lib.hid (And.intro xa (And.intro xb B0))
  obtain ⟨a0, a1, a2, a3⟩ : w0.cell? ⟨w.heap.size, 0, none⟩ = some (.int .i64 a.wh) ∧ w0.cell? ⟨w.heap.size, 1, none⟩ = some (.int .i64 a.er) ∧ w0.cell? ⟨w.heap.size, 2, none⟩ = some (.int .i64 a.re) ∧ w0.cell? ⟨w.heap.size, 3, none⟩ = some (.int .i64 a.ma) := ⟨xa.cell 0, xa.cell 1, xa.cell 2, xa.cell 3⟩
  clear h30 hn hm h hw0 hsz B0 xa xb ha hb a0 a3
  go_enter Tryz.func7, Tryz.ntmps7
  go_upto_region 4 with fail
  rw [← HW0.out]
  clear HW0
  go_wp2_with fail
  refine (refuse_nil _ _).mono ?_
  rintro e w1 ⟨rfl, b1⟩
  go_wp2_with fail
  refine (num16_any _ _).mono ?_
  rintro e w1' ⟨rfl, rfl⟩
  replace a2 := (b1.cell (p := ⟨w.heap.size, 2, none⟩) (cell_lt a2)).trans a2
  have a3 := (X.out.1.below b1 X.out.1.lt).cell 3
  simp only [List.getElem?_toArray, List.getElem?_cons_zero, List.getElem?_cons_succ] at a3
  have B1 := Lib.hid b1
  clear b1 a1
  go_wp2_with fail
  refine (leave_nil _ _ _).mono ?_
  rintro e w2 ⟨rfl, b2⟩
  have B2 := Lib.hid (bnext B1.out b2)
  clear b2 a2 a3 B1
  go_wp2_with fail
  refine (num16_any _ _).mono ?_
  rintro e w2' ⟨rfl, rfl⟩
  go_wp2_with fail
  refine (refused_nil _ _).mono ?_
  rintro e w3 ⟨rfl, b3⟩
  have B3 := Lib.hid (bnext B2.out b3)
  clear b3 B2
  go_wp2_with fail
  refine (leftout_nil _ _).mono ?_
  rintro e w4 ⟨rfl, b4⟩
  have B4 := Lib.hid (bnext B3.out b4)
  clear b4 B3
  go_wp2_with fail
  refine (gall_nil _).mono ?_
  rintro e w5 ⟨lb, rfl, hA, b5⟩
  have HRW := Lib.hid (rows16_any z15 rfl bd15 lb 1 w5 (hA.fr (q := (· < w5.heap.size)) (Fr.refl (p := fun _ => True)) (fun _ _ _ => trivial) (fun b _ h => h)))
  have B5 := Lib.hid (bnext B4.out b5)
  clear b5 B4 hA
  go_wp2_with fail
  rw [HZ.out]
  refine HRW.out.mono ?_
  rintro e w6 ⟨rfl, b6⟩
  have B6 := Lib.hid (bnext B5.out b6)
  clear b6 B5 HRW
  go_wp2_with fail
  refine (gcopy_nil _).mono ?_
  rintro e w6' ⟨rfl, rfl⟩
  go_wp2_with fail
  refine (gsame_nn _).mono ?_
  rintro e w6' ⟨rfl, rfl⟩
  go_wp2_with fail
  refine (gnew_any _).mono ?_
  rintro e w7 ⟨g7, rfl, hg7, hT7, b7⟩
  have B7 := Lib.hid (bnext B6.out b7)
  have HSM := Lib.hid (gsame_ln hT7)
  clear hg7 hT7 b7 B6
  go_wp2_with fail
  refine HSM.out.mono ?_
  rintro e w7' ⟨rfl, rfl⟩
  clear HSM
  go_wp2_with fail
  refine (gnew_any _).mono ?_
  rintro e w1 ⟨g0, rfl, hg0, hT0, b1⟩
  have n5 := rowIs_new w1 #[.int .i64 0, .int .i64 0, .int .i64 0, .int .i64 0, .int .i64 0, .int .i64 0, .int .i64 0, .int .i64 0, .int .i64 0, .int .i64 0, .int .i64 0, .int .i64 0, .int .i64 0, .int .i64 0, .int .i64 0, .int .i64 0] 68 16
  simp only [List.size_toArray, List.length_cons, List.length_nil, Nat.reduceAdd, beq_self_eq_true] at n5
  have HT0 := Lib.hid hT0
  have hgl := hT0.lt
  have B1 := Lib.hid (bnext B7.out b1)
  have hg00 : w0.heap.size ≤ g0 := by have := B7.out.size; omega
  clear hT0 b1 B7 hg0
  go_upto_region 7 with fail
  rw [HZ.out]
  have hTw : Two ((w1.alloc (.cells (tF (ftal z15)) 68)).setRow w1.heap.size (tF (ftal z15))) w0.heap.size g0 w1.heap.size z15 := ⟨(HT0.out.below (balloc (Below.refl _ _) _)).setRow_ne (by omega) _, (Blk.new w1 68 _).setRow _, hg00, B1.out.size, by omega⟩
  have hBw : Below w0.heap.size w0 ((w1.alloc (.cells (tF (ftal z15)) 68)).setRow w1.heap.size (tF (ftal z15))) := below_setRow16 (balloc B1.out _) B1.out.size _
  generalize (w1.alloc (.cells (tF (ftal z15)) 68)).setRow w1.heap.size (tF (ftal z15)) = w2 at *
  obtain ⟨bw, hbw⟩ : ∃ bw, w1.heap.size = bw := ⟨_, rfl⟩
  rw [hbw] at hTw ⊢
  have HTW := Lib.hid (And.intro hTw hBw)
  clear hbw hTw hBw HT0 B1 n5 hg00 hgl
  go_wp2_with fail
  go_loopw [10, 12, 13] (fun t fi i wr => ∃ j g L, j ≤ n ∧ i = .int .i64 (j : Nat) ∧ fi = .bool true ∧ t = .pointer (some ⟨g, 0, none⟩) ∧ Two wr w0.heap.size g bw L ∧ Below w0.heap.size w0 wr) (fun _ _ i _ => n - (intOf i).toNat)
  case atStart => exact ⟨0, g0, z15, Nat.zero_le _, rfl, rfl, rfl, HTW.out.1, HTW.out.2⟩
  case round =>
    obtain ⟨j, g, L, hj, rfl, rfl, rfl, hTw, hB⟩ := hrel
    have HT := Lib.hid hTw
    have HB := Lib.hid hB
    clear hTw hB HTW
    by_cases hlt : j < n
    case neg =>
      obtain rfl : j = n := by omega
      have xa := X.out.1.below HB.out X.out.1.lt
      have xb := X.out.2.1.below HB.out X.out.2.1.lt
      have hs0 : w.heap.size + 2 ≤ w0.heap.size := Nat.le_of_eq HS0.out.symm
      have hgg := HT.out.ge
      have hbwl := HT.out.blk.lt
      have gl := HT.out.ta.lt
      have gne := HT.out.ne
      have hwb := HB.out.size
      have HXA := Lib.hid (And.intro xa xb)
      clear xa xb HN HM HH
      go_wp2_with fail
      refine (gall_any HT.out.ta).mono ?_
      rintro e w3 ⟨lb3, rfl, hA3, b3⟩
      go_wp2_with fail
      refine (gcopy_any (HT.out.ta.below b3)).mono ?_
      rintro e w4 ⟨gc, rfl, hgc, hTc, b4⟩
      have bb4 := bnext b3 b4
      have hT4 := HT.out.ta.below bb4
      have hA4 := hA3.fr (q := fun b => wr.heap.size ≤ b ∧ b < w3.heap.size) (Fr.of_below (p := fun _ => True) b4) (fun _ _ _ => trivial) (fun b h hl => ⟨h, hl⟩)
      have K4 := Lib.hid (And.intro (HT.out.blk.below bb4 HT.out.blk.lt) (And.intro (HXA.out.1.below bb4 HXA.out.1.lt) (And.intro (HXA.out.2.below bb4 HXA.out.2.lt) (And.intro hA4 (And.intro hTc hT4)))))
      have hs3 := b3.size
      have hs4 := b4.size
      have HACa := Lib.hid (act_any a.wh a.er a.re a.ma HAB.out.1 hT4)
      obtain ⟨XL, hXL⟩ : ∃ XL, XL = actL L a.wh a.er a.re a.ma := ⟨_, rfl⟩
      obtain ⟨YL, hYL⟩ : ∃ YL, YL = actL L b.wh b.er b.re b.ma := ⟨_, rfl⟩
      rw [← hXL] at HACa
      have HYL := Lib.hid hYL
      have BB4 := Lib.hid bb4
      obtain ⟨r1, r2⟩ := (K4.out.1.row (tF_size _)).2
      obtain ⟨a0, a1, a2, a3⟩ : w4.cell? ⟨w.heap.size, 0, none⟩ = some (.int .i64 a.wh) ∧ w4.cell? ⟨w.heap.size, 1, none⟩ = some (.int .i64 a.er) ∧ w4.cell? ⟨w.heap.size, 2, none⟩ = some (.int .i64 a.re) ∧ w4.cell? ⟨w.heap.size, 3, none⟩ = some (.int .i64 a.ma) := ⟨K4.out.2.1.cell 0, K4.out.2.1.cell 1, K4.out.2.1.cell 2, K4.out.2.1.cell 3⟩
      clear hA3 hA4 hTc hT4 b3 b4 bb4 hXL hYL HXA
      go_wp2_with fail
      refine HACa.out.mono ?_
      rintro e w5 ⟨g1, rfl, hT1, f1, hg1⟩
      clear r1 r2 a0 a1 a2 a3 HACa
      have n5 := rowIs_new w5 #[.int .i64 0, .int .i64 0, .int .i64 0, .int .i64 0, .int .i64 0, .int .i64 0, .int .i64 0, .int .i64 0, .int .i64 0, .int .i64 0, .int .i64 0, .int .i64 0, .int .i64 0, .int .i64 0, .int .i64 0, .int .i64 0] 68 16
      simp only [List.size_toArray, List.length_cons, List.length_nil, Nat.reduceAdd, beq_self_eq_true] at n5
      have q1 : Fr (fun k => k ≠ g) w4 ((w5.alloc (.cells #[.int .i64 0, .int .i64 0, .int .i64 0, .int .i64 0, .int .i64 0, .int .i64 0, .int .i64 0, .int .i64 0, .int .i64 0, .int .i64 0, .int .i64 0, .int .i64 0, .int .i64 0, .int .i64 0, .int .i64 0, .int .i64 0] 68)).setRow w5.heap.size (tF (ftal XL))) := Fr.new16 f1 _ _
      have hg15 := hT1.lt
      have q2 : Ta ((w5.alloc (.cells #[.int .i64 0, .int .i64 0, .int .i64 0, .int .i64 0, .int .i64 0, .int .i64 0, .int .i64 0, .int .i64 0, .int .i64 0, .int .i64 0, .int .i64 0, .int .i64 0, .int .i64 0, .int .i64 0, .int .i64 0, .int .i64 0] 68)).setRow w5.heap.size (tF (ftal XL))) g1 XL := (hT1.below (balloc (Below.refl _ _) _)).setRow_ne (by omega) _
      have q3 : Blk ((w5.alloc (.cells #[.int .i64 0, .int .i64 0, .int .i64 0, .int .i64 0, .int .i64 0, .int .i64 0, .int .i64 0, .int .i64 0, .int .i64 0, .int .i64 0, .int .i64 0, .int .i64 0, .int .i64 0, .int .i64 0, .int .i64 0, .int .i64 0] 68)).setRow w5.heap.size (tF (ftal XL))) w5.heap.size 68 (tF (ftal XL)) := (Blk.new w5 68 _).setRow _
      have hs5 := f1.2.2.2.1
      have Q := Lib.hid (And.intro q1 (And.intro q2 q3))
      clear q1 q2 q3 hT1 f1
      go_upto_region 15 with fail
      clear n5
      obtain ⟨q1, q2, q3⟩ := Q.out
      clear Q
      obtain ⟨bx, hbx⟩ : ∃ bx, w5.heap.size = bx := ⟨_, rfl⟩
      generalize (w5.alloc (.cells #[.int .i64 0, .int .i64 0, .int .i64 0, .int .i64 0, .int .i64 0, .int .i64 0, .int .i64 0, .int .i64 0, .int .i64 0, .int .i64 0, .int .i64 0, .int .i64 0, .int .i64 0, .int .i64 0, .int .i64 0, .int .i64 0] 68)).setRow w5.heap.size (tF (ftal XL)) = w6 at *
      rw [hbx] at q3 hg15 hs5 ⊢
      clear hbx
      have hgcg : gc ≠ g := by omega
      have hc6 := K4.out.2.2.2.2.1.fr q1 hgcg
      have hw6 := q1.blk K4.out.1 gne
      have hb6 := q1.blk K4.out.2.2.1 (by omega)
      have hA6 := K4.out.2.2.2.1.fr (q := fun b => wr.heap.size ≤ b ∧ b < w3.heap.size) q1 (fun b h _ => by have := h.1; omega) (fun b h _ => h)
      have hgc4 := K4.out.2.2.2.2.1.lt
      have HF6 := Lib.hid q1
      have HACb := Lib.hid (act_any b.wh b.er b.re b.ma HAB.out.2 hc6)
      rw [← HYL.out] at HACb
      have K6 := Lib.hid (And.intro hw6 (And.intro hA6 (And.intro q2 q3)))
      obtain ⟨r1, r2⟩ := (hw6.row (tF_size _)).2
      obtain ⟨a0, a1, a2, a3⟩ : w6.cell? ⟨w.heap.size + 1, 0, none⟩ = some (.int .i64 b.wh) ∧ w6.cell? ⟨w.heap.size + 1, 1, none⟩ = some (.int .i64 b.er) ∧ w6.cell? ⟨w.heap.size + 1, 2, none⟩ = some (.int .i64 b.re) ∧ w6.cell? ⟨w.heap.size + 1, 3, none⟩ = some (.int .i64 b.ma) := ⟨hb6.cell 0, hb6.cell 1, hb6.cell 2, hb6.cell 3⟩
      have hs6 := q1.2.2.2.1
      have hbx6 := q3.lt
      have hg16 := q2.lt
      clear hc6 hw6 hb6 hA6 q1 q2 q3
      go_wp2_with fail
      refine HACb.out.mono ?_
      rintro e w7 ⟨g2, rfl, hT2, f2, hg2⟩
      clear r1 r2 a0 a1 a2 a3 HACb
      have n5 := rowIs_new w7 #[.int .i64 0, .int .i64 0, .int .i64 0, .int .i64 0, .int .i64 0, .int .i64 0, .int .i64 0, .int .i64 0, .int .i64 0, .int .i64 0, .int .i64 0, .int .i64 0, .int .i64 0, .int .i64 0, .int .i64 0, .int .i64 0] 68 16
      simp only [List.size_toArray, List.length_cons, List.length_nil, Nat.reduceAdd, beq_self_eq_true] at n5
      have q1 : Fr (fun k => k ≠ gc) w6 ((w7.alloc (.cells #[.int .i64 0, .int .i64 0, .int .i64 0, .int .i64 0, .int .i64 0, .int .i64 0, .int .i64 0, .int .i64 0, .int .i64 0, .int .i64 0, .int .i64 0, .int .i64 0, .int .i64 0, .int .i64 0, .int .i64 0, .int .i64 0] 68)).setRow w7.heap.size (tF (ftal YL))) := Fr.new16 f2 _ _
      have hg27 := hT2.lt
      have q2 : Ta ((w7.alloc (.cells #[.int .i64 0, .int .i64 0, .int .i64 0, .int .i64 0, .int .i64 0, .int .i64 0, .int .i64 0, .int .i64 0, .int .i64 0, .int .i64 0, .int .i64 0, .int .i64 0, .int .i64 0, .int .i64 0, .int .i64 0, .int .i64 0] 68)).setRow w7.heap.size (tF (ftal YL))) g2 YL := (hT2.below (balloc (Below.refl _ _) _)).setRow_ne (by omega) _
      have q3 : Blk ((w7.alloc (.cells #[.int .i64 0, .int .i64 0, .int .i64 0, .int .i64 0, .int .i64 0, .int .i64 0, .int .i64 0, .int .i64 0, .int .i64 0, .int .i64 0, .int .i64 0, .int .i64 0, .int .i64 0, .int .i64 0, .int .i64 0, .int .i64 0] 68)).setRow w7.heap.size (tF (ftal YL))) w7.heap.size 68 (tF (ftal YL)) := (Blk.new w7 68 _).setRow _
      have hs7 := f2.2.2.2.1
      have Q := Lib.hid (And.intro q1 (And.intro q2 q3))
      clear q1 q2 q3 hT2 f2
      go_upto_region 16 with fail
      clear n5
      obtain ⟨q1, q2, q3⟩ := Q.out
      clear Q
      obtain ⟨by', hby⟩ : ∃ by', w7.heap.size = by' := ⟨_, rfl⟩
      generalize (w7.alloc (.cells #[.int .i64 0, .int .i64 0, .int .i64 0, .int .i64 0, .int .i64 0, .int .i64 0, .int .i64 0, .int .i64 0, .int .i64 0, .int .i64 0, .int .i64 0, .int .i64 0, .int .i64 0, .int .i64 0, .int .i64 0, .int .i64 0] 68)).setRow w7.heap.size (tF (ftal YL)) = w8 at *
      rw [hby] at q3 hg27 hs7 ⊢
      clear hby
      have hw8 := q1.blk K6.out.1 (by omega)
      have hx8 := q1.blk K6.out.2.2.2 (by omega)
      have ht8 := K6.out.2.2.1.fr q1 (by omega)
      have hA8 := K6.out.2.1.fr (q := (· < w8.heap.size)) q1 (fun b h hl => by have := h.2; omega) (fun b h hl => by have := q1.2.2.2.1; omega)
      have heq := fun W => eq_tF XL YL ht8.len q2.len W
      have HSA := Lib.hid (fun W (h1 : Ta W g1 XL) (h2 : Ta W g2 YL) => gsame_any h1 h2)
      have HSB := Lib.hid (fun W (h1 : Ta W g1 XL) (h2 : Ta W g2 YL) => gsame_any h2 h1)
      rw [show decide (YL = XL) = decide (XL = YL) from decide_eq_decide.2 eq_comm] at HSB
      generalize decide (XL = YL) = sm at *
      have hss : (sm == sm) = true := by simp
      have HRW := Lib.hid (rows16_any L HT.out.ta.len HT.out.ta.bd lb3 many w8 hA8)
      have hB8 : Below w.heap.size w w8 := X.out.2.2.trans ((HB.out.trans (BB4.out.mono hwb)).mono (by omega)) |>.trans (HF6.out.below (by omega) (fun b hb => by omega)) |>.trans (q1.below (by omega) (fun b hb => by omega))
      have H8 := Lib.hid (And.intro hx8 (And.intro q3 (And.intro ht8 (And.intro q2 hB8))))
      obtain ⟨r1, r2⟩ := (hx8.row (tF_size _)).2
      obtain ⟨r3, r4⟩ := (q3.row (tF_size _)).2
      obtain ⟨r5, r6⟩ := (hw8.row (tF_size _)).2
      clear hw8 hx8 ht8 hA8 q1 q2 q3 hB8 K4 K6
      go_wp2_with fail
      refine HRW.out.mono ?_
      rintro e w9 ⟨rfl, b9⟩
      clear r1 r2 r3 r4 r5 r6 HRW
      obtain ⟨r1, r2⟩ := ((H8.out.1.below b9 H8.out.1.lt).row (tF_size _)).2
      have hi9 := is16_any (H8.out.2.2.1.below b9)
      have HI9 := Lib.hid hi9
      have B9 := Lib.hid b9
      clear b9 hi9
      go_wp2_with fail
      refine HI9.out.mono ?_
      rintro e w10 ⟨rfl, b10⟩
      have B10 := Lib.hid (bnext B9.out b10)
      clear r1 r2 b10 B9 HI9
      obtain ⟨r1, r2⟩ := ((H8.out.2.1.below B10.out H8.out.2.1.lt).row (tF_size _)).2
      have HI10 := Lib.hid (is16_any (H8.out.2.2.2.1.below B10.out))
      go_wp2_with fail
      refine HI10.out.mono ?_
      rintro e w11 ⟨rfl, b11⟩
      have B11 := Lib.hid (bnext B10.out b11)
      clear r1 r2 b11 B10 HI10
      go_wp2_with fail
      refine (HSA.out w11 (H8.out.2.2.1.below B11.out) (H8.out.2.2.2.1.below B11.out)).mono ?_
      rintro e w12 ⟨rfl, n12, rfl⟩
      have B12 := Lib.hid (below_drewN B11.out n12)
      clear B11
      generalize w11.drewN n12 = w12 at *
      go_wp2_with fail
      refine (HSB.out w12 (H8.out.2.2.1.below B12.out) (H8.out.2.2.2.1.below B12.out)).mono ?_
      rintro e w13 ⟨rfl, n13, rfl⟩
      have B13 := Lib.hid (below_drewN B12.out n13)
      clear B12
      generalize w12.drewN n13 = w13 at *
      go_wp2_with fail
      have B14 := Lib.hid (H8.out.2.2.2.2.trans (B13.out.mono H8.out.2.2.2.2.size))
      refine (HWK.out w13 B14.out).mono ?_
      rintro e w14 ⟨rfl, b14⟩
      have B15 := Lib.hid (bnext B14.out b14)
      clear b14
      go_wp2_with fail
      go_ret
      exact ⟨rfl, B15.out⟩
    obtain ⟨x, hx⟩ : ∃ x, l[j]? = some x := ⟨l[j]'(by rw [HN.out]; exact hlt), List.getElem?_eq_getElem _⟩
    obtain ⟨bl, off, rfl, hbl, c0, c1, c2, c3⟩ := ac_at (HH.out.below (HB.out.mono (by have := HS0.out; omega))) hx
    have HX := Lib.hid (HM.out x (List.mem_of_getElem? hx))
    have d1 : decide ((j : Int) < (n : Int)) = true := by simp; omega
    have hi0 : (0 : Int) ≤ (j : Int) := by omega
    have hi1 : (j : Int) < (n : Int) := by omega
    have hwk : IntKind.i64.wrap ((j : Int) + 1) = (j : Int) + 1 := IntWalk.i64_in _ ⟨by omega, by omega⟩
    have HAC := Lib.hid (fun W (hT : Ta W g L) => act_any x.wh x.er x.re x.ma HX.out hT)
    obtain ⟨M, hM⟩ : ∃ M, M = actL L x.wh x.er x.re x.ma := ⟨_, rfl⟩
    rw [← hM] at HAC
    clear hx hM
    have x4 := (HT.out.blk.drewN 1).row (tF_size _)
    obtain ⟨x40, x41, x42⟩ : rowIs wr.drew bw 16 = true ∧ rowOk wr.drew bw 0 16 = true ∧ rowOf wr.drew bw 0 16 = tF (ftal L) := x4
    have gl := HT.out.ta.lt
    go_upto_region 11 with fail
    go_region_with (first
      | (go_at_call 23; (with_reducible refine (HAC.out wr.drew (HT.out.ta.drew)).mono ?_); rintro e' w6 ⟨g', rfl, hT6, f6, hgg⟩; obtain ⟨z50, z51, z52⟩ := (f6.blk (HT.out.blk.drewN 1) HT.out.ne).row (tF_size _)))
    all_goals
      have HQ := Lib.hid (two_next HT.out hT6 f6 hgg)
      generalize w6.setRow bw (tF (ftal M)) = wz at *
      clear x40 x41 x42 z50 z51 z52 c0 c1 c2 c3 hT6 f6 hgg
      go_wp2_with fail
      go_roundw
      case rel => exact ⟨j + 1, g', M, by omega, by go_num, rfl, rfl, HQ.out.1, HB.out.trans HQ.out.2⟩
      case measure => simp [intOf]; omega
end Go.Proofs.YtlanfceilajifaaGreatDoor
